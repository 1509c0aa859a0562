/- strings.Fields at this seat's translation, in the print's form: its Lean function and its contract; and the one premise on memory that it asks: the table strings.asciiSpace lies as it was laid (Glob). -/
import Derived.Test.YtndpdelkhmaliaaDoorP0
import Derived.Shelf.Strings.Fields
import Derived.WalkSmall
namespace Go.Proofs
open Go.Shelf
def Tryd.lays157_ren : Go.Shelf.Ren := ⟨fun | 157 => 27 | 229 => 33 | 199 => 34 | 261 => 35 | 311 => 36 | 312 => 37 | n => n, fun | 9 => 9 | 31 => 56 | 3 => 3 | 5 => 5 | 4 => 4 | 119 => 60 | 0 => 0 | 40 => 62 | 152 => 63 | 21 => 21 | 154 => 65 | 51 => 66 | 141 => 68 | 196 => 72 | 193 => 69 | 198 => 75 | 49 => 73 | 194 => 70 | 201 => 78 | 226 => 80 | 46 => 55 | 227 => 81 | n => n, fun | 0 => 0 | 6 => 1 | n => n⟩
theorem Tryd.lays157 : Go.Proofs.Lays.n157 Tryd.prog Tryd.lays157_ren := {
  mixed := by kernel_rfl
  f157 := Tryd.func27.trans (congrArg some (by kernel_rfl))
  f199 := Tryd.func34.trans (congrArg some (by kernel_rfl))
  f229 := Tryd.func33.trans (congrArg some (by kernel_rfl))
  f261 := Tryd.func35.trans (congrArg some (by kernel_rfl))
  f311 := Tryd.func36.trans (congrArg some (by kernel_rfl))
  f312 := Tryd.func37.trans (congrArg some (by kernel_rfl))
  t0 := Tryd.underlying0
  a0 := Tryd.isAgg0
  z0 := Tryd.sizeOf0
  v0 := Tryd.zeroValue0
  t3 := Tryd.underlying3
  a3 := Tryd.isAgg3
  z3 := Tryd.sizeOf3
  v3 := Tryd.zeroValue3
  t4 := Tryd.underlying4
  a4 := Tryd.isAgg4
  z4 := Tryd.sizeOf4
  v4 := Tryd.zeroValue4
  t5 := Tryd.underlying5
  a5 := Tryd.isAgg5
  z5 := Tryd.sizeOf5
  v5 := Tryd.zeroValue5
  t9 := Tryd.underlying9
  a9 := Tryd.isAgg9
  z9 := Tryd.sizeOf9
  v9 := Tryd.zeroValue9
  t21 := Tryd.underlying21
  a21 := Tryd.isAgg21
  z21 := Tryd.sizeOf21
  v21 := Tryd.zeroValue21
  t31 := Tryd.underlying56
  a31 := Tryd.isAgg56
  z31 := Tryd.sizeOf56
  v31 := Tryd.zeroValue56
  t40 := Tryd.underlying62
  a40 := Tryd.isAgg62
  z40 := Tryd.sizeOf62
  v40 := Tryd.zeroValue62
  t46 := Tryd.underlying55
  a46 := Tryd.isAgg55
  z46 := Tryd.sizeOf55
  v46 := Tryd.zeroValue55
  t49 := Tryd.underlying73
  a49 := Tryd.isAgg73
  z49 := Tryd.sizeOf73
  v49 := Tryd.zeroValue73
  t51 := Tryd.underlying66
  a51 := Tryd.isAgg66
  z51 := Tryd.sizeOf66
  v51 := Tryd.zeroValue66
  t119 := Tryd.underlying60
  a119 := Tryd.isAgg60
  z119 := Tryd.sizeOf60
  t141 := Tryd.underlying68
  a141 := Tryd.isAgg68
  z141 := Tryd.sizeOf68
  v141 := Tryd.zeroValue68
  t152 := Tryd.underlying63
  a152 := Tryd.isAgg63
  z152 := Tryd.sizeOf63
  v152 := Tryd.zeroValue63
  t154 := Tryd.underlying65
  a154 := Tryd.isAgg65
  z154 := Tryd.sizeOf65
  v154 := Tryd.zeroValue65
  t193 := Tryd.underlying69
  a193 := Tryd.isAgg69
  z193 := Tryd.sizeOf69
  v193 := Tryd.zeroValue69
  t194 := Tryd.underlying70
  a194 := Tryd.isAgg70
  z194 := Tryd.sizeOf70
  v194 := Tryd.zeroValue70
  t196 := Tryd.underlying72
  a196 := Tryd.isAgg72
  z196 := Tryd.sizeOf72
  v196 := Tryd.zeroValue72
  t198 := Tryd.underlying75
  a198 := Tryd.isAgg75
  z198 := Tryd.sizeOf75
  v198 := Tryd.zeroValue75
  t201 := Tryd.underlying78
  a201 := Tryd.isAgg78
  z201 := Tryd.sizeOf78
  v201 := Tryd.zeroValue78
  t226 := Tryd.underlying80
  a226 := Tryd.isAgg80
  z226 := Tryd.sizeOf80
  v226 := Tryd.zeroValue80
  t227 := Tryd.underlying81
  a227 := Tryd.isAgg81
  z227 := Tryd.sizeOf81
  v227 := Tryd.zeroValue81
  g0 := by kernel_rfl
  g6 := by kernel_rfl }
open Go.RowKit Go.Lib in
/-- strings.Fields, the table by 'Lib.TabIs' (as strings.TrimSpace's contract). 'hg': the table's number, by its name: at a dump 'by kernel_rfl'. (LAID: no walk: one application.) -/
theorem Tryd.strings_Fields (s : ByteArray) (w : World) (hs : s.size < 4294967281) (hascii : ∀ (j : Nat) b, s.data.toList[j]? = some b → b.toNat < 128) (htab : Lib.TabIs Tryd.prog w "strings.asciiSpace" .u8 Lib.asciiSpaceTab) :
    Calls Tryd.prog 27 #[.string s] w fun e w' =>
      e = .returned (.slice (some ⟨w.heap.size, 0, none⟩) (Lib.fields s.data.toList).length (Lib.fields s.data.toList).length) ∧ w' = w.alloc (.cells ((Lib.fields s.data.toList).map fun l => Value.string ⟨l.toArray⟩).toArray 9) := Any.strings_Fields Tryd.lays157 (by kernel_rfl) (by kernel_rfl) s w hs hascii htab
end Go.Proofs
namespace Go.Proofs.YtndpdelkhmaliaaDoor.P
open Go.RowKit Go.Proofs.YtndpdelkhmaliaaDoorW.PrintWords
/-- The table that strings.Fields reads lies as the program's text lays it. -/
def Glob (w : World) : Prop := Lib.TabIs Tryd.prog w "strings.asciiSpace" .u8 Lib.asciiSpaceTab
theorem globName : Tryd.prog.globalNamed "strings.asciiSpace" = some 0 := by kernel_rfl
theorem Glob.pos {w : World} (h : Glob w) : 0 < w.heap.size := by
  unfold Glob Lib.TabIs World.var? at h
  rw [globName] at h
  simp only [Option.bind_some] at h
  rcases Nat.eq_zero_or_pos w.heap.size with h0 | h0
  · rw [Array.getElem?_eq_none (by omega)] at h
    cases h
  · exact h0
theorem Glob.below {w w1 : World} (h : Glob w) (hb : Below w.heap.size w w1) : Glob w1 := var?_below hb globName h.pos h
def strings_Fields.f (a0 : ByteArray) : Option (List ByteArray) :=
  if a0.size < 4294967281 ∧ a0.data.toList.all (fun b => decide (b.toNat < 128)) = true then some ((Lib.fields a0.data.toList).map fun l => (⟨l.toArray⟩ : ByteArray)) else none
theorem fieldsGo_len : ∀ (l cur : List UInt8), (Lib.fieldsGo cur l).length ≤ l.length + 1
  | [], cur => by simp only [Lib.fieldsGo]; split <;> simp
  | b :: l, cur => by
    have h1 := fieldsGo_len l []
    have h2 := fieldsGo_len l (cur ++ [b])
    simp only [Lib.fieldsGo]
    split
    · split
      · simp only [List.length_cons]; omega
      · simp only [List.length_cons]; omega
    · simp only [List.length_cons]; omega
theorem strings_Fields.calls (a0 : ByteArray) (r : List ByteArray) (w : World) (hG : Glob w) (h : strings_Fields.f a0 = some r) :
    Calls Tryd.prog 27 #[.string a0] w fun e w' => ∃ v0_ : Value, e = .returned (v0_) ∧ Kd.R Kd.string 9 w' w.heap.size (fun _ => True) v0_ r ∧ Below w.heap.size w w' := by
  unfold strings_Fields.f at h
  split at h
  · rename_i hc
    obtain rfl := Option.some.inj h
    have ha : ∀ (j : Nat) b, a0.data.toList[j]? = some b → b.toNat < 128 := fun j b hj => by
      have := List.all_eq_true.1 hc.2 b (List.mem_of_getElem? hj)
      simpa using this
    have hl : (Lib.fields a0.data.toList).length ≤ 4294967282 := by
      have := fieldsGo_len a0.data.toList []
      have h2 : a0.data.toList.length = a0.size := Array.length_toList
      unfold Lib.fields
      omega
    refine (Tryd.strings_Fields a0 w hc.1 ha hG).mono ?_
    rintro e w' ⟨rfl, rfl⟩
    have hm : ((Lib.fields a0.data.toList).map fun l => Value.string ⟨l.toArray⟩) = encs Value.string ((Lib.fields a0.data.toList).map fun l => (⟨l.toArray⟩ : ByteArray)) := by
      simp [encs, List.map_map, Function.comp_def]
    refine ⟨_, rfl, ?_, below_alloc (Below.refl _ _) _⟩
    have ho := World.ownsRow_lit (base := w.heap.size) (e := 9) (size := 1) w ((Lib.fields a0.data.toList).map fun l => Value.string ⟨l.toArray⟩).toArray (Lib.fields a0.data.toList).length (Nat.le_refl _) (by simp only [maxLen]; omega) (by simp)
    refine Kd.R_of_own (h1 := fun _ => rfl) ?_ (fun _ _ => trivial)
    rw [List.length_map, ← hm]
    simpa using ho
  · cases h
end Go.Proofs.YtndpdelkhmaliaaDoor.P
