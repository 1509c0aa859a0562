/- strings.Fields (laid by the kit's shelf), in the print's form; the one premise on memory that it asks (Glob). -/
import Derived.Test.YtldejfkplnejjaaDoorP0
import Derived.WalkSmall
import Derived.Shelf.Strings.Fields
namespace Go.Proofs
open Go.Shelf
def Tryd.lays157_ren : Go.Shelf.Ren := ⟨fun | 157 => 99 | 229 => 115 | 199 => 116 | 261 => 128 | 311 => 137 | 312 => 138 | n => n, fun | 9 => 9 | 31 => 145 | 3 => 3 | 5 => 5 | 4 => 4 | 119 => 162 | 0 => 0 | 40 => 164 | 152 => 183 | 21 => 21 | 154 => 185 | 51 => 186 | 141 => 188 | 196 => 203 | 193 => 200 | 198 => 206 | 49 => 204 | 194 => 201 | 201 => 209 | 226 => 216 | 46 => 144 | 227 => 217 | n => n, fun | 0 => 0 | 6 => 1 | n => n⟩
theorem Tryd.lays157 : Go.Proofs.Lays.n157 Tryd.prog Tryd.lays157_ren := {
  mixed := by kernel_rfl
  f157 := Tryd.func99.trans (congrArg some (by kernel_rfl))
  f199 := Tryd.func116.trans (congrArg some (by kernel_rfl))
  f229 := Tryd.func115.trans (congrArg some (by kernel_rfl))
  f261 := Tryd.func128.trans (congrArg some (by kernel_rfl))
  f311 := Tryd.func137.trans (congrArg some (by kernel_rfl))
  f312 := Tryd.func138.trans (congrArg some (by kernel_rfl))
  t0 := Tryd.underlying0
  a0 := Tryd.isAgg0
  z0 := Tryd.sizeOf0
  v0 := Tryd.zeroValue0
  t3 := Tryd.underlying3
  a3 := Tryd.isAgg3
  z3 := Tryd.sizeOf3
  v3 := Tryd.zeroValue3
  t4 := Tryd.underlying4
  a4 := Tryd.isAgg4
  z4 := Tryd.sizeOf4
  v4 := Tryd.zeroValue4
  t5 := Tryd.underlying5
  a5 := Tryd.isAgg5
  z5 := Tryd.sizeOf5
  v5 := Tryd.zeroValue5
  t9 := Tryd.underlying9
  a9 := Tryd.isAgg9
  z9 := Tryd.sizeOf9
  v9 := Tryd.zeroValue9
  t21 := Tryd.underlying21
  a21 := Tryd.isAgg21
  z21 := Tryd.sizeOf21
  v21 := Tryd.zeroValue21
  t31 := Tryd.underlying145
  a31 := Tryd.isAgg145
  z31 := Tryd.sizeOf145
  v31 := Tryd.zeroValue145
  t40 := Tryd.underlying164
  a40 := Tryd.isAgg164
  z40 := Tryd.sizeOf164
  v40 := Tryd.zeroValue164
  t46 := Tryd.underlying144
  a46 := Tryd.isAgg144
  z46 := Tryd.sizeOf144
  v46 := Tryd.zeroValue144
  t49 := Tryd.underlying204
  a49 := Tryd.isAgg204
  z49 := Tryd.sizeOf204
  v49 := Tryd.zeroValue204
  t51 := Tryd.underlying186
  a51 := Tryd.isAgg186
  z51 := Tryd.sizeOf186
  v51 := Tryd.zeroValue186
  t119 := Tryd.underlying162
  a119 := Tryd.isAgg162
  z119 := Tryd.sizeOf162
  t141 := Tryd.underlying188
  a141 := Tryd.isAgg188
  z141 := Tryd.sizeOf188
  v141 := Tryd.zeroValue188
  t152 := Tryd.underlying183
  a152 := Tryd.isAgg183
  z152 := Tryd.sizeOf183
  v152 := Tryd.zeroValue183
  t154 := Tryd.underlying185
  a154 := Tryd.isAgg185
  z154 := Tryd.sizeOf185
  v154 := Tryd.zeroValue185
  t193 := Tryd.underlying200
  a193 := Tryd.isAgg200
  z193 := Tryd.sizeOf200
  v193 := Tryd.zeroValue200
  t194 := Tryd.underlying201
  a194 := Tryd.isAgg201
  z194 := Tryd.sizeOf201
  v194 := Tryd.zeroValue201
  t196 := Tryd.underlying203
  a196 := Tryd.isAgg203
  z196 := Tryd.sizeOf203
  v196 := Tryd.zeroValue203
  t198 := Tryd.underlying206
  a198 := Tryd.isAgg206
  z198 := Tryd.sizeOf206
  v198 := Tryd.zeroValue206
  t201 := Tryd.underlying209
  a201 := Tryd.isAgg209
  z201 := Tryd.sizeOf209
  v201 := Tryd.zeroValue209
  t226 := Tryd.underlying216
  a226 := Tryd.isAgg216
  z226 := Tryd.sizeOf216
  v226 := Tryd.zeroValue216
  t227 := Tryd.underlying217
  a227 := Tryd.isAgg217
  z227 := Tryd.sizeOf217
  v227 := Tryd.zeroValue217
  g0 := by kernel_rfl
  g6 := by kernel_rfl }
open Go.RowKit Go.Lib in
theorem Tryd.strings_Fields (s : ByteArray) (w : World) (hs : s.size < 4294967281) (hascii : ∀ (j : Nat) b, s.data.toList[j]? = some b → b.toNat < 128) (htab : Lib.TabIs Tryd.prog w "strings.asciiSpace" .u8 Lib.asciiSpaceTab) :
    Calls Tryd.prog 99 #[.string s] w fun e w' =>
      e = .returned (.slice (some ⟨w.heap.size, 0, none⟩) (Lib.fields s.data.toList).length (Lib.fields s.data.toList).length) ∧ w' = w.alloc (.cells ((Lib.fields s.data.toList).map fun l => Value.string ⟨l.toArray⟩).toArray 9) := Any.strings_Fields Tryd.lays157 (by kernel_rfl) (by kernel_rfl) s w hs hascii htab
end Go.Proofs
namespace Go.Proofs.YtldejfkplnejjaaDoor.P
open Go.RowKit Go.Proofs.YtldejfkplnejjaaDoorW.PrintWords
def Glob (w : World) : Prop := Lib.TabIs Tryd.prog w "strings.asciiSpace" .u8 Lib.asciiSpaceTab
theorem globName : Tryd.prog.globalNamed "strings.asciiSpace" = some 0 := by kernel_rfl
theorem Glob.pos {w : World} (h : Glob w) : 0 < w.heap.size := by
  unfold Glob Lib.TabIs World.var? at h
  rw [globName] at h
  simp only [Option.bind_some] at h
  rcases Nat.eq_zero_or_pos w.heap.size with h0 | h0
  · rw [Array.getElem?_eq_none (by omega)] at h
    cases h
  · exact h0
theorem Glob.below {w w1 : World} (h : Glob w) (hb : Below w.heap.size w w1) : Glob w1 := var?_below hb globName h.pos h
def strings_Fields.f (a0 : ByteArray) : Option (List ByteArray) :=
  if a0.size < 4294967281 ∧ a0.data.toList.all (fun b => decide (b.toNat < 128)) = true then some ((Lib.fields a0.data.toList).map fun l => (⟨l.toArray⟩ : ByteArray)) else none
theorem fieldsGo_len : ∀ (l cur : List UInt8), (Lib.fieldsGo cur l).length ≤ l.length + 1
  | [], cur => by simp only [Lib.fieldsGo]; split <;> simp
  | b :: l, cur => by
    have h1 := fieldsGo_len l []
    have h2 := fieldsGo_len l (cur ++ [b])
    simp only [Lib.fieldsGo]
    split
    · split
      · simp only [List.length_cons]; omega
      · simp only [List.length_cons]; omega
    · simp only [List.length_cons]; omega
theorem strings_Fields.calls (a0 : ByteArray) (r : List ByteArray) (w : World) (hG : Glob w) (h : strings_Fields.f a0 = some r) :
    Calls Tryd.prog 99 #[.string a0] w fun e w' => ∃ v0_ : Value, e = .returned (v0_) ∧ Kd.R Kd.string 9 w' w.heap.size (fun _ => True) v0_ r ∧ Below w.heap.size w w' := by
  unfold strings_Fields.f at h
  split at h
  · rename_i hc
    obtain rfl := Option.some.inj h
    have ha : ∀ (j : Nat) b, a0.data.toList[j]? = some b → b.toNat < 128 := fun j b hj => by
      have := List.all_eq_true.1 hc.2 b (List.mem_of_getElem? hj)
      simpa using this
    have hl : (Lib.fields a0.data.toList).length ≤ 4294967282 := by
      have := fieldsGo_len a0.data.toList []
      have h2 : a0.data.toList.length = a0.size := Array.length_toList
      unfold Lib.fields
      omega
    refine (Tryd.strings_Fields a0 w hc.1 ha hG).mono ?_
    rintro e w' ⟨rfl, rfl⟩
    have hm : ((Lib.fields a0.data.toList).map fun l => Value.string ⟨l.toArray⟩) = encs Value.string ((Lib.fields a0.data.toList).map fun l => (⟨l.toArray⟩ : ByteArray)) := by
      simp [encs, List.map_map, Function.comp_def]
    refine ⟨_, rfl, ?_, below_alloc (Below.refl _ _) _⟩
    have ho := World.ownsRow_lit (base := w.heap.size) (e := 9) (size := 1) w ((Lib.fields a0.data.toList).map fun l => Value.string ⟨l.toArray⟩).toArray (Lib.fields a0.data.toList).length (Nat.le_refl _) (by simp only [maxLen]; omega) (by simp)
    refine Kd.R_of_own (h1 := fun _ => rfl) ?_ (fun _ _ => trivial)
    rw [List.length_map, ← hm]
    simpa using ho
  · cases h
end Go.Proofs.YtldejfkplnejjaaDoor.P
