-- Written by my program xprint.py (a patched run of the kit's print). Lean checks it.
import Derived.Test.YtlajkmnmooilmaaDoorP0
import Derived.Test.YtlajkmnmooilmaaDoorP1
import Derived.Test.YtlajkmnmooilmaaDoorP2
import Derived.Test.YtlajkmnmooilmaaDoorP3
import Derived.Test.YtlajkmnmooilmaaDoorP28
import Derived.Test.YtlajkmnmooilmaaDoorExt
import Derived.Test.YtlajkmnmooilmaaDoorExtSig
namespace Go.Proofs.YtlajkmnmooilmaaDoor.P
open Go.RowKit Go.Proofs.YtlajkmnmooilmaaDoorW.PrintWords Go.Proofs.YtlajkmnmooilmaaDoorW.PrintLast Go.Proofs.YtlajkmnmooilmaaDoorW.PrintMore
attribute [local go_sem] max2_int min2_int max_two min_two max_three min_three max_four min_four   -- for this text's walks alone
set_option linter.unusedVariables false
set_option linter.unusedSimpArgs false

attribute [local go_sem high] eqA26
/-! ### keystonelaw2_DescLimits: function 3 -/
mutual
def keystonelaw2_DescLimits.j0 : Nat → Int → Int → ByteArray → ByteArray → Option (Bool)
  | 0, _, _, _, _ => none
  | k + 1, x0, x1, x2, x7 => keystonelaw2_DescLimits.l0 k x0 x1 x2 x7 x7 0
def keystonelaw2_DescLimits.l0 : Nat → Int → Int → ByteArray → ByteArray → ByteArray → Int → Option (Bool)
  | 0, _, _, _, _, _, _ => none
  | k + 1, x0, x1, x2, x7, x8, x9 => if x9 < x0 then (if 1 + x8.size ≤ 9223372036854775807 then (keystonelaw2_DescLimits.l0 k x0 x1 x2 x7 ((⟨#[91]⟩ : ByteArray) ++ x8) (wrap64 (x9 + 1))) else (none)) else ((desc_Type.f k x8).bind fun bt538 => (if x0 > 8 then (if bt538.2.2 = 15 then (if (!(bt538.1 == 0) || (!(bt538.2.1.toList == ([] : List UInt8)))) = true then (keystonelaw2_DescLimits.j2 k x1 x2 x7 true) else (if x0 ≤ 8 then (if bt538.2.2 = 0 then (keystonelaw2_DescLimits.j2 k x1 x2 x7 (!(bt538.1 == x0) || (!(bt538.2.1.toList == x2.toList)))) else (keystonelaw2_DescLimits.j2 k x1 x2 x7 true)) else (keystonelaw2_DescLimits.j2 k x1 x2 x7 false))) else (keystonelaw2_DescLimits.j2 k x1 x2 x7 true)) else (if x0 ≤ 8 then (if bt538.2.2 = 0 then (keystonelaw2_DescLimits.j2 k x1 x2 x7 (!(bt538.1 == x0) || (!(bt538.2.1.toList == x2.toList)))) else (keystonelaw2_DescLimits.j2 k x1 x2 x7 true)) else (keystonelaw2_DescLimits.j2 k x1 x2 x7 false))))
def keystonelaw2_DescLimits.j2 : Nat → Int → ByteArray → ByteArray → Bool → Option (Bool)
  | 0, _, _, _, _ => none
  | k + 1, x1, x2, x7, x65 => if x65 = true then (some false) else (keystonelaw2_DescLimits.l1 k x1 x2 x7 (⟨#[40]⟩ : ByteArray) 0)
def keystonelaw2_DescLimits.l1 : Nat → Int → ByteArray → ByteArray → ByteArray → Int → Option (Bool)
  | 0, _, _, _, _, _ => none
  | k + 1, x1, x2, x7, x12, x13 => if x13 < x1 then (if x12.size + x7.size ≤ 9223372036854775807 then (keystonelaw2_DescLimits.l1 k x1 x2 x7 (x12 ++ x7) (wrap64 (x13 + 1))) else (none)) else (if x12.size + 1 ≤ 9223372036854775807 then (if (x12 ++ (⟨#[41]⟩ : ByteArray)).size + x7.size ≤ 9223372036854775807 then ((desc_Sig.f k ((x12 ++ (⟨#[41]⟩ : ByteArray)) ++ x7)).bind fun bt542 => (if x1 > 16 then (if bt542.2.2.2.2 = 4 then (some ((bt542.1.length : Int) == 0)) else (some false)) else (if bt542.2.2.2.2 = 0 then (if (bt542.1.length : Int) = x1 then (some (bt542.2.2.1 == 0 && (bt542.2.2.2.1.toList == x2.toList))) else (some false)) else (some false)))) else (none)) else (none))
end
def keystonelaw2_DescLimits.f (k : Nat) (a0 : Int) (a1 : Int) (a2 : ByteArray) : Option (Bool) := (keystonelaw2_known.f k).bind fun t534 => (if t534 = true then ((keystonelaw2_within.f a0 12).bind fun t535 => ((keystonelaw2_within.f a1 22).bind fun t536 => ((desc_Name.f k a2).bind fun t537 => (if t537 = true then (if 1 + a2.size ≤ 9223372036854775807 then (if ((⟨#[76]⟩ : ByteArray) ++ a2).size + 1 ≤ 9223372036854775807 then (keystonelaw2_DescLimits.j0 k t535 t536 a2 (((⟨#[76]⟩ : ByteArray) ++ a2) ++ (⟨#[59]⟩ : ByteArray))) else (none)) else (none)) else (keystonelaw2_DescLimits.j0 k t535 t536 (⟨#[]⟩ : ByteArray) (⟨#[73]⟩ : ByteArray)))))) else (some false))
theorem keystonelaw2_DescLimits.mono_l : ∀ k, (∀ y0 y1 y2 y3, LeO (keystonelaw2_DescLimits.j0 k y0 y1 y2 y3) (keystonelaw2_DescLimits.j0 (k + 1) y0 y1 y2 y3)) ∧ (∀ y0 y1 y2 y3 y4 y5, LeO (keystonelaw2_DescLimits.l0 k y0 y1 y2 y3 y4 y5) (keystonelaw2_DescLimits.l0 (k + 1) y0 y1 y2 y3 y4 y5)) ∧ (∀ y0 y1 y2 y3, LeO (keystonelaw2_DescLimits.j2 k y0 y1 y2 y3) (keystonelaw2_DescLimits.j2 (k + 1) y0 y1 y2 y3)) ∧ (∀ y0 y1 y2 y3 y4, LeO (keystonelaw2_DescLimits.l1 k y0 y1 y2 y3 y4) (keystonelaw2_DescLimits.l1 (k + 1) y0 y1 y2 y3 y4))
  | 0 => ⟨fun _ _ _ _ r h => by simp [keystonelaw2_DescLimits.j0] at h, fun _ _ _ _ _ _ r h => by simp [keystonelaw2_DescLimits.l0] at h, fun _ _ _ _ r h => by simp [keystonelaw2_DescLimits.j2] at h, fun _ _ _ _ _ r h => by simp [keystonelaw2_DescLimits.l1] at h⟩
  | k + 1 => by
    obtain ⟨ih0, ih1, ih2, ih3⟩ := keystonelaw2_DescLimits.mono_l k
    refine ⟨?_, ?_, ?_, ?_⟩
    · intro y0 y1 y2 y3
      unfold keystonelaw2_DescLimits.j0
      repeat' first
      | (with_reducible exact ih0 _ _ _ _)
      | (with_reducible exact ih1 _ _ _ _ _ _)
      | (with_reducible exact ih2 _ _ _ _)
      | (with_reducible exact ih3 _ _ _ _ _)
      | (with_reducible exact desc_Name.mono _ _)
      | (with_reducible exact desc_Sig.mono _ _)
      | (with_reducible exact desc_Type.mono _ _)
      | (with_reducible exact keystonelaw2_known.mono _)
      | (with_reducible exact LeO.refl _)
      | (with_reducible exact LeO.none _)
      | (with_reducible refine LeO.ite ?_ ?_)
      | (with_reducible refine LeO.bind ?_ (fun _ => ?_))
      | exact ih0 _ _ _ _
      | exact ih1 _ _ _ _ _ _
      | exact ih2 _ _ _ _
      | exact ih3 _ _ _ _ _
      | exact desc_Name.mono _ _
      | exact desc_Sig.mono _ _
      | exact desc_Type.mono _ _
      | exact keystonelaw2_known.mono _
      | exact LeO.none _
      | refine LeO.ite ?_ ?_
      | refine LeO.bind ?_ (fun _ => ?_)
    · intro y0 y1 y2 y3 y4 y5
      unfold keystonelaw2_DescLimits.l0
      repeat' first
      | (with_reducible exact ih0 _ _ _ _)
      | (with_reducible exact ih1 _ _ _ _ _ _)
      | (with_reducible exact ih2 _ _ _ _)
      | (with_reducible exact ih3 _ _ _ _ _)
      | (with_reducible exact desc_Name.mono _ _)
      | (with_reducible exact desc_Sig.mono _ _)
      | (with_reducible exact desc_Type.mono _ _)
      | (with_reducible exact keystonelaw2_known.mono _)
      | (with_reducible exact LeO.refl _)
      | (with_reducible exact LeO.none _)
      | (with_reducible refine LeO.ite ?_ ?_)
      | (with_reducible refine LeO.bind ?_ (fun _ => ?_))
      | exact ih0 _ _ _ _
      | exact ih1 _ _ _ _ _ _
      | exact ih2 _ _ _ _
      | exact ih3 _ _ _ _ _
      | exact desc_Name.mono _ _
      | exact desc_Sig.mono _ _
      | exact desc_Type.mono _ _
      | exact keystonelaw2_known.mono _
      | exact LeO.none _
      | refine LeO.ite ?_ ?_
      | refine LeO.bind ?_ (fun _ => ?_)
    · intro y0 y1 y2 y3
      unfold keystonelaw2_DescLimits.j2
      repeat' first
      | (with_reducible exact ih0 _ _ _ _)
      | (with_reducible exact ih1 _ _ _ _ _ _)
      | (with_reducible exact ih2 _ _ _ _)
      | (with_reducible exact ih3 _ _ _ _ _)
      | (with_reducible exact desc_Name.mono _ _)
      | (with_reducible exact desc_Sig.mono _ _)
      | (with_reducible exact desc_Type.mono _ _)
      | (with_reducible exact keystonelaw2_known.mono _)
      | (with_reducible exact LeO.refl _)
      | (with_reducible exact LeO.none _)
      | (with_reducible refine LeO.ite ?_ ?_)
      | (with_reducible refine LeO.bind ?_ (fun _ => ?_))
      | exact ih0 _ _ _ _
      | exact ih1 _ _ _ _ _ _
      | exact ih2 _ _ _ _
      | exact ih3 _ _ _ _ _
      | exact desc_Name.mono _ _
      | exact desc_Sig.mono _ _
      | exact desc_Type.mono _ _
      | exact keystonelaw2_known.mono _
      | exact LeO.none _
      | refine LeO.ite ?_ ?_
      | refine LeO.bind ?_ (fun _ => ?_)
    · intro y0 y1 y2 y3 y4
      unfold keystonelaw2_DescLimits.l1
      repeat' first
      | (with_reducible exact ih0 _ _ _ _)
      | (with_reducible exact ih1 _ _ _ _ _ _)
      | (with_reducible exact ih2 _ _ _ _)
      | (with_reducible exact ih3 _ _ _ _ _)
      | (with_reducible exact desc_Name.mono _ _)
      | (with_reducible exact desc_Sig.mono _ _)
      | (with_reducible exact desc_Type.mono _ _)
      | (with_reducible exact keystonelaw2_known.mono _)
      | (with_reducible exact LeO.refl _)
      | (with_reducible exact LeO.none _)
      | (with_reducible refine LeO.ite ?_ ?_)
      | (with_reducible refine LeO.bind ?_ (fun _ => ?_))
      | exact ih0 _ _ _ _
      | exact ih1 _ _ _ _ _ _
      | exact ih2 _ _ _ _
      | exact ih3 _ _ _ _ _
      | exact desc_Name.mono _ _
      | exact desc_Sig.mono _ _
      | exact desc_Type.mono _ _
      | exact keystonelaw2_known.mono _
      | exact LeO.none _
      | refine LeO.ite ?_ ?_
      | refine LeO.bind ?_ (fun _ => ?_)
theorem keystonelaw2_DescLimits.mono : ∀ a0 a1 a2 k, LeO (keystonelaw2_DescLimits.f k a0 a1 a2) (keystonelaw2_DescLimits.f (k + 1) a0 a1 a2) := by
  intro a0 a1 a2 k
  obtain ⟨ih0, ih1, ih2, ih3⟩ := keystonelaw2_DescLimits.mono_l k
  unfold keystonelaw2_DescLimits.f
  repeat' first
      | (with_reducible exact ih0 _ _ _ _)
      | (with_reducible exact ih1 _ _ _ _ _ _)
      | (with_reducible exact ih2 _ _ _ _)
      | (with_reducible exact ih3 _ _ _ _ _)
      | (with_reducible exact desc_Name.mono _ _)
      | (with_reducible exact desc_Sig.mono _ _)
      | (with_reducible exact desc_Type.mono _ _)
      | (with_reducible exact keystonelaw2_known.mono _)
      | (with_reducible exact LeO.refl _)
      | (with_reducible exact LeO.none _)
      | (with_reducible refine LeO.ite ?_ ?_)
      | (with_reducible refine LeO.bind ?_ (fun _ => ?_))
      | exact ih0 _ _ _ _
      | exact ih1 _ _ _ _ _ _
      | exact ih2 _ _ _ _
      | exact ih3 _ _ _ _ _
      | exact desc_Name.mono _ _
      | exact desc_Sig.mono _ _
      | exact desc_Type.mono _ _
      | exact keystonelaw2_known.mono _
      | exact LeO.none _
      | refine LeO.ite ?_ ?_
      | refine LeO.bind ?_ (fun _ => ?_)
set_option maxHeartbeats 8000000 in
set_option maxRecDepth 100000 in
theorem keystonelaw2_DescLimits.calls (k : Nat) (a0 : Int) (a1 : Int) (a2 : ByteArray) (r : Bool) (w : World) (hT : r = true) (h : keystonelaw2_DescLimits.f k a0 a1 a2 = some r) :
    Calls Tryd.prog 3 #[.int .i64 a0, .int .i64 a1, .string a2] w fun e w' => e = .returned (.bool r) ∧ Below w.heap.size w w' := by
  have hu26 := Tryd.underlying26
  have hu32 := Tryd.underlying32
  have HB := Aside0.mk (Below.refl w.heap.size w)
  have H : ((keystonelaw2_known.f k).bind fun t534 => (if t534 = true then ((keystonelaw2_within.f a0 12).bind fun t535 => ((keystonelaw2_within.f a1 22).bind fun t536 => ((desc_Name.f k a2).bind fun t537 => (if t537 = true then (if 1 + a2.size ≤ 9223372036854775807 then (if ((⟨#[76]⟩ : ByteArray) ++ a2).size + 1 ≤ 9223372036854775807 then (keystonelaw2_DescLimits.j0 k t535 t536 a2 (((⟨#[76]⟩ : ByteArray) ++ a2) ++ (⟨#[59]⟩ : ByteArray))) else (none)) else (none)) else (keystonelaw2_DescLimits.j0 k t535 t536 (⟨#[]⟩ : ByteArray) (⟨#[73]⟩ : ByteArray)))))) else (some false))) = some r := h
  clear h
  have HT := Aside0.mk hT
  clear hT
  replace H := Option.bind_eq_some_iff.mp H
  obtain ⟨t534, A40, H⟩ := H
  replace H : (if t534 = true then ((keystonelaw2_within.f a0 12).bind fun t535 => ((keystonelaw2_within.f a1 22).bind fun t536 => ((desc_Name.f k a2).bind fun t537 => (if t537 = true then (if 1 + a2.size ≤ 9223372036854775807 then (if ((⟨#[76]⟩ : ByteArray) ++ a2).size + 1 ≤ 9223372036854775807 then (keystonelaw2_DescLimits.j0 k t535 t536 a2 (((⟨#[76]⟩ : ByteArray) ++ a2) ++ (⟨#[59]⟩ : ByteArray))) else (none)) else (none)) else (keystonelaw2_DescLimits.j0 k t535 t536 (⟨#[]⟩ : ByteArray) (⟨#[73]⟩ : ByteArray)))))) else (some false)) = some r := H
  have A4 := Aside0.mk A40
  clear A40
  by_cases c5 : t534 = true
  · subst c5
    have H1 : ((keystonelaw2_within.f a0 12).bind fun t535 => ((keystonelaw2_within.f a1 22).bind fun t536 => ((desc_Name.f k a2).bind fun t537 => (if t537 = true then (if 1 + a2.size ≤ 9223372036854775807 then (if ((⟨#[76]⟩ : ByteArray) ++ a2).size + 1 ≤ 9223372036854775807 then (keystonelaw2_DescLimits.j0 k t535 t536 a2 (((⟨#[76]⟩ : ByteArray) ++ a2) ++ (⟨#[59]⟩ : ByteArray))) else (none)) else (none)) else (keystonelaw2_DescLimits.j0 k t535 t536 (⟨#[]⟩ : ByteArray) (⟨#[73]⟩ : ByteArray)))))) = some r := by rw [if_pos rfl] at H; exact H
    clear H
    have H := H1
    clear H1
    replace H := Option.bind_eq_some_iff.mp H
    obtain ⟨t535, A60, H⟩ := H
    replace H : ((keystonelaw2_within.f a1 22).bind fun t536 => ((desc_Name.f k a2).bind fun t537 => (if t537 = true then (if 1 + a2.size ≤ 9223372036854775807 then (if ((⟨#[76]⟩ : ByteArray) ++ a2).size + 1 ≤ 9223372036854775807 then (keystonelaw2_DescLimits.j0 k t535 t536 a2 (((⟨#[76]⟩ : ByteArray) ++ a2) ++ (⟨#[59]⟩ : ByteArray))) else (none)) else (none)) else (keystonelaw2_DescLimits.j0 k t535 t536 (⟨#[]⟩ : ByteArray) (⟨#[73]⟩ : ByteArray))))) = some r := H
    have A6 := Aside0.mk A60
    clear A60
    replace H := Option.bind_eq_some_iff.mp H
    obtain ⟨t536, A70, H⟩ := H
    replace H : ((desc_Name.f k a2).bind fun t537 => (if t537 = true then (if 1 + a2.size ≤ 9223372036854775807 then (if ((⟨#[76]⟩ : ByteArray) ++ a2).size + 1 ≤ 9223372036854775807 then (keystonelaw2_DescLimits.j0 k t535 t536 a2 (((⟨#[76]⟩ : ByteArray) ++ a2) ++ (⟨#[59]⟩ : ByteArray))) else (none)) else (none)) else (keystonelaw2_DescLimits.j0 k t535 t536 (⟨#[]⟩ : ByteArray) (⟨#[73]⟩ : ByteArray)))) = some r := H
    have A7 := Aside0.mk A70
    clear A70
    replace H := Option.bind_eq_some_iff.mp H
    obtain ⟨t537, A80, H⟩ := H
    replace H : (if t537 = true then (if 1 + a2.size ≤ 9223372036854775807 then (if ((⟨#[76]⟩ : ByteArray) ++ a2).size + 1 ≤ 9223372036854775807 then (keystonelaw2_DescLimits.j0 k t535 t536 a2 (((⟨#[76]⟩ : ByteArray) ++ a2) ++ (⟨#[59]⟩ : ByteArray))) else (none)) else (none)) else (keystonelaw2_DescLimits.j0 k t535 t536 (⟨#[]⟩ : ByteArray) (⟨#[73]⟩ : ByteArray))) = some r := H
    have A8 := Aside0.mk A80
    clear A80
    have HC9 := Aside0.mk H
    clear H
    go_enter Tryd.func3, Tryd.ntmps3
    go_upto_if 23 with (first | ((with_reducible refine gate_callee (f := 15) rfl ?_); refine goesL_ (some 16) rfl rfl Tryd.func15 (by kernel_rfl) rfl #[] rfl (by (try simp only [List.map_toArray, List.map_cons, List.map_nil]); first | done | rfl | (simp only [List.length_drop, List.length_take]; rfl)) ?_; (with_reducible refine (keystonelaw2_known.calls k  true _ A4.out).mono ?_); rintro e w10 ⟨rfl, hb⟩; refine ⟨_, rfl, ?_⟩; have n0_ := Aside0.mk (below_step (by repeat (first | (with_reducible first | exact HB.out | apply below_alloc | apply pw_below_drewN | apply below_drew1) | exact HB.out)) hb); clear HB; have HB := n0_; clear n0_; (try clear hb); (try clear hb2); (try clear hk); (try clear hi)) | ((with_reducible refine gate_callee (f := 16) rfl ?_); refine goesL_ (some 19) rfl rfl Tryd.func16 (by kernel_rfl) rfl #[.int .i64 a0, .int .i64 12] rfl (by (try simp only [List.map_toArray, List.map_cons, List.map_nil]); first | done | rfl | (simp only [List.length_drop, List.length_take]; rfl)) ?_; (with_reducible refine (keystonelaw2_within.calls a0 12 t535 _ A6.out).mono ?_); rintro e w' ⟨rfl, ⟨nd, rfl⟩⟩; refine ⟨_, rfl, ?_⟩) | ((with_reducible refine gate_callee (f := 16) rfl ?_); refine goesL_ (some 21) rfl rfl Tryd.func16 (by kernel_rfl) rfl #[.int .i64 a1, .int .i64 22] rfl (by (try simp only [List.map_toArray, List.map_cons, List.map_nil]); first | done | rfl | (simp only [List.length_drop, List.length_take]; rfl)) ?_; (with_reducible refine (keystonelaw2_within.calls a1 22 t536 _ A7.out).mono ?_); rintro e w' ⟨rfl, ⟨nd, rfl⟩⟩; refine ⟨_, rfl, ?_⟩) | ((with_reducible refine gate_callee (f := 17) rfl ?_); refine goesL_ (some 23) rfl rfl Tryd.func17 (by kernel_rfl) rfl #[.string a2] rfl (by (try simp only [List.map_toArray, List.map_cons, List.map_nil]); first | done | rfl | (simp only [List.length_drop, List.length_take]; rfl)) ?_; (with_reducible refine (desc_Name.calls k a2 t537 _ A8.out).mono ?_); rintro e w' ⟨rfl, ⟨nd, rfl⟩⟩; refine ⟨_, rfl, ?_⟩))
    (try simp only [Act.put, List.setIfInBounds_toArray, List.set_cons_zero, List.set_cons_succ])
    go_cut [2, 7] (fun v2 v7 wc => ∃ (kq : Nat) (x2_8 : ByteArray) (x7_8 : ByteArray), v2 = .string x2_8 ∧ v7 = .string x7_8 ∧ Aside0 (keystonelaw2_DescLimits.j0 kq t535 t536 x2_8 x7_8 = some r) ∧ Aside0 (kq ≤ k) ∧ Aside0 (Below w.heap.size w wc))
    case first =>
      have H := HC9.out
      clear HC9
      by_cases c11 : t537 = true
      · subst c11
        have H1 : (if 1 + a2.size ≤ 9223372036854775807 then (if ((⟨#[76]⟩ : ByteArray) ++ a2).size + 1 ≤ 9223372036854775807 then (keystonelaw2_DescLimits.j0 k t535 t536 a2 (((⟨#[76]⟩ : ByteArray) ++ a2) ++ (⟨#[59]⟩ : ByteArray))) else (none)) else (none)) = some r := by rw [if_pos rfl] at H; exact H
        clear H
        have H := H1
        clear H1
        by_cases c12 : 1 + a2.size ≤ 9223372036854775807
        · rw [if_pos c12] at H
          have c12b0 := eq_true c12
          have c12b1 : decide (1 + a2.size ≤ 9223372036854775807) = true := decide_eq_true c12
          try have c12b2 : (9223372036854775807 < 1 + a2.size) = False := eq_false (Nat.not_lt.2 c12)
          by_cases c13 : ((⟨#[76]⟩ : ByteArray) ++ a2).size + 1 ≤ 9223372036854775807
          · rw [if_pos c13] at H
            have c13b0 := eq_true c13
            have c13b1 : decide (((⟨#[76]⟩ : ByteArray) ++ a2).size + 1 ≤ 9223372036854775807) = true := decide_eq_true c13
            try have c13b2 : (9223372036854775807 < ((⟨#[76]⟩ : ByteArray) ++ a2).size + 1) = False := eq_false (Nat.not_lt.2 c13)
            (try (have c13b3 := c13b2; simp only [ByteArray.size_append, show (⟨#[76]⟩ : ByteArray).size = 1 from rfl] at c13b3))
            have H' := Aside0.mk H
            clear H
            go_wp2
            go_meet
            case rel => exact ⟨_, (a2), (((⟨#[76]⟩ : ByteArray) ++ a2) ++ (⟨#[59]⟩ : ByteArray)), (by first | rfl | (simp; done) | (simp [*]; done) | (simp [wrap64]; done)), (by first | rfl | (simp; done) | (simp [*]; done) | (simp [wrap64]; done)), H', ⟨by first | omega | exact Nat.le_refl _⟩, ⟨by repeat (first | (with_reducible first | exact HB.out | apply below_alloc | apply pw_below_drewN | apply below_drew1) | exact HB.out)⟩⟩
          · rw [if_neg c13] at H
            exact absurd H (by simp)
        · rw [if_neg c12] at H
          exact absurd H (by simp)
      · replace c11 := Bool.eq_false_iff.mpr c11
        subst c11
        have H1 : (keystonelaw2_DescLimits.j0 k t535 t536 (⟨#[]⟩ : ByteArray) (⟨#[73]⟩ : ByteArray)) = some r := by rw [if_neg (show ¬ (false = true) by decide)] at H; exact H
        clear H
        have H := H1
        clear H1
        have H' := Aside0.mk H
        clear H
        go_wp2
        go_meet
        case rel => exact ⟨_, ((⟨#[]⟩ : ByteArray)), ((⟨#[73]⟩ : ByteArray)), (by first | rfl | (simp; done) | (simp [*]; done) | (simp [wrap64]; done)), (by first | rfl | (simp; done) | (simp [*]; done) | (simp [wrap64]; done)), H', ⟨by first | omega | exact Nat.le_refl _⟩, ⟨by repeat (first | (with_reducible first | exact HB.out | apply below_alloc | apply pw_below_drewN | apply below_drew1) | exact HB.out)⟩⟩
    case rest =>
      clear HC9
      try clear c1
      try clear p2
      try clear c3
      try clear c5
      try clear c11
      try clear c12
      try clear c12b0
      try clear c12b1
      try clear c12b2
      try clear c13
      try clear c13b0
      try clear c13b1
      try clear c13b2
      obtain ⟨kq, x2_8, x7_8, rfl, rfl, HA, HJ8, HB⟩ := hcut
      cases kq with
      | zero => exact absurd HA.out (by simp [keystonelaw2_DescLimits.j0])
      | succ kj8 =>
        have H := HA.out
        clear HA
        simp only [keystonelaw2_DescLimits.j0] at H
        have H' := Aside0.mk H
        clear H
        go_wp2
        go_loopg [8, 9] kj8 (fun kq v8 v9 w' => ∃ (x8_2 : ByteArray) (x9_2 : Int), v8 = .string x8_2 ∧ v9 = .int .i64 x9_2 ∧ Aside0 (keystonelaw2_DescLimits.l0 kq t535 t536 x2_8 x7_8 x8_2 x9_2 = some r) ∧ Aside0 (kq ≤ kj8) ∧ Aside0 (Below w.heap.size w w'))
        case atStart => exact ⟨(x7_8), (0), (by first | rfl | (simp; done) | (simp [*]; done) | (simp [wrap64]; done)), (by first | rfl | (simp; done) | (simp [*]; done) | (simp [wrap64]; done)), H', ⟨Nat.le_refl _⟩, ⟨by repeat (first | (with_reducible first | exact HB.out | apply below_alloc | apply pw_below_drewN | apply below_drew1) | exact HB.out)⟩⟩
        case round =>
          clear H'
          try clear c1
          try clear p2
          try clear c3
          try clear c5
          try clear c11
          try clear c12
          try clear c12b0
          try clear c12b1
          try clear c12b2
          try clear c13
          try clear c13b0
          try clear c13b1
          try clear c13b2
          try clear p2
          obtain ⟨x8_2, x9_2, rfl, rfl, HA, HK2, HB⟩ := hrel
          cases gk with
          | zero => exact absurd HA.out (by simp [keystonelaw2_DescLimits.l0])
          | succ k2 =>
            have H := HA.out
            clear HA
            simp only [keystonelaw2_DescLimits.l0] at H
            by_cases c14 : x9_2 < t535
            · rw [if_pos c14] at H
              have c14b0 : decide (x9_2 < t535) = true := decide_eq_true c14
              clear c14
              by_cases c15 : 1 + x8_2.size ≤ 9223372036854775807
              · rw [if_pos c15] at H
                have c15b0 := eq_true c15
                have c15b1 : decide (1 + x8_2.size ≤ 9223372036854775807) = true := decide_eq_true c15
                try have c15b2 : (9223372036854775807 < 1 + x8_2.size) = False := eq_false (Nat.not_lt.2 c15)
                have H' := Aside0.mk H
                clear H
                go_wp2
                go_roundg k2
                case measure => have := HJ8.out; have := HK2.out; omega
                case rel => exact ⟨((⟨#[91]⟩ : ByteArray) ++ x8_2), (wrap64 (x9_2 + 1)), (by first | rfl | (simp; done) | (simp [*]; done) | (simp [wrap64]; done)), (by first | rfl | (simp; done) | (simp [*]; done) | (simp [wrap64]; done)), H', ⟨by have := HJ8.out; have := HK2.out; omega⟩, ⟨by repeat (first | (with_reducible first | exact HB.out | apply below_alloc | apply pw_below_drewN | apply below_drew1) | exact HB.out)⟩⟩
              · rw [if_neg c15] at H
                exact absurd H (by simp)
            · rw [if_neg c14] at H
              have c14b0 : decide (x9_2 < t535) = false := decide_eq_false c14
              clear c14
              replace H := Option.bind_eq_some_iff.mp H
              obtain ⟨⟨t538, t539, t540⟩, A160, H⟩ := H
              replace H : (if t535 > 8 then (if t540 = 15 then (if (!(t538 == 0) || (!(t539.toList == ([] : List UInt8)))) = true then (keystonelaw2_DescLimits.j2 k2 t536 x2_8 x7_8 true) else (if t535 ≤ 8 then (if t540 = 0 then (keystonelaw2_DescLimits.j2 k2 t536 x2_8 x7_8 (!(t538 == t535) || (!(t539.toList == x2_8.toList)))) else (keystonelaw2_DescLimits.j2 k2 t536 x2_8 x7_8 true)) else (keystonelaw2_DescLimits.j2 k2 t536 x2_8 x7_8 false))) else (keystonelaw2_DescLimits.j2 k2 t536 x2_8 x7_8 true)) else (if t535 ≤ 8 then (if t540 = 0 then (keystonelaw2_DescLimits.j2 k2 t536 x2_8 x7_8 (!(t538 == t535) || (!(t539.toList == x2_8.toList)))) else (keystonelaw2_DescLimits.j2 k2 t536 x2_8 x7_8 true)) else (keystonelaw2_DescLimits.j2 k2 t536 x2_8 x7_8 false))) = some r := H
              have A16 := Aside0.mk A160
              clear A160
              have HC17 := Aside0.mk H
              clear H
              go_upto_region 14 with (first | ((with_reducible refine gate_callee (f := 18) rfl ?_); refine goesL_ (some 37) rfl rfl Tryd.func18 (by kernel_rfl) rfl #[.string x8_2] rfl (by (try simp only [List.map_toArray, List.map_cons, List.map_nil]); first | done | rfl | (simp only [List.length_drop, List.length_take]; rfl)) ?_; (with_reducible refine (desc_Type.calls k2 x8_2 t538 t539 t540 _ A16.out).mono ?_); rintro e w18 ⟨rfl, hb⟩; refine ⟨_, rfl, ?_⟩; have n0_ := Aside0.mk (below_step (by repeat (first | (with_reducible first | exact HB.out | apply below_alloc | apply pw_below_drewN | apply below_drew1) | exact HB.out)) hb); clear HB; have HB := n0_; clear n0_; (try clear hb); (try clear hb2); (try clear hk); (try clear hi)) | ((with_reducible refine gate_dst (N := 10) rfl ?_); (try (refine gate_guard (by rfl) ?_; dsimp only)); refine box_event ?hg (N := 10) ?hd (cs := #[.int .i64 0, .string (⟨#[]⟩ : ByteArray)]) (t := 26) ?hr ?_; (case hd => rfl); (case hg => rfl); (case hr => first | (go_simp; done) | (go_simp; rfl)); intro gb541 hg w19 hbox hb; have n0_ := Aside0.mk (below_step (by repeat (first | (with_reducible first | exact HB.out | apply below_alloc | apply pw_below_drewN | apply below_drew1) | exact HB.out)) hb); have n1_ := Aside0.mk (hbox); have n2_ := Aside0.mk ((by rw [hg]; exact (below_size (by repeat (first | (with_reducible first | exact HB.out | apply below_alloc | apply pw_below_drewN | apply below_drew1) | exact HB.out))) : w.heap.size ≤ gb541)); have n3_ := Aside0.mk ((by rw [hg]; exact (below_size (by repeat (first | (with_reducible first | exact HB.out | apply below_alloc | apply pw_below_drewN | apply below_drew1) | exact HB.out))) : w.heap.size ≤ gb541)); clear HB; have HB := n0_; have BK541 := n1_; have GW541 := n2_; have GE541 := n3_; clear n0_ n1_ n2_ n3_; clear hb hbox hg; have hcz20_0 : w19.cell? ⟨gb541, 0, none⟩ = some (.int .i64 0) := (blk_cell BK541.out 0).trans rfl; have hcz20_1 : w19.cell? ⟨gb541, 1, none⟩ = some (.string (⟨#[]⟩ : ByteArray)) := (blk_cell BK541.out 1).trans rfl; have hfz20_0 := blk_frozen BK541.out 0; have hfz20_1 := blk_frozen BK541.out 1))
              (try simp only [Act.put, List.setIfInBounds_toArray, List.set_cons_zero, List.set_cons_succ])
              go_cut [65] (fun v65 wc => ∃ (kq : Nat) (x65_16 : Bool), v65 = .bool x65_16 ∧ Aside0 (keystonelaw2_DescLimits.j2 kq t536 x2_8 x7_8 x65_16 = some r) ∧ Aside0 (kq ≤ k2) ∧ Aside0 (wc.heap[gb541]? = some (.cells #[.int .i64 t538, .string t539] 26 (0, 0))) ∧ Aside0 (Below w.heap.size w wc))
              case first =>
                have H := HC17.out
                clear HC17
                by_cases c21 : t535 > 8
                · rw [if_pos c21] at H
                  have c21b0 : decide (8 < t535) = true := decide_eq_true c21
                  clear c21
                  (first | rw [c21b0] | (simp only [i64_w, i32_w]; rw [c21b0]) | skip)
                  by_cases c22 : t540 = 15
                  · rw [if_pos c22] at H
                    have c22b0 : (t540 == 15) = true := beq_iff_eq.mpr c22
                    have c22b1 : (t540 != 15) = false := bne_eq_false_iff_eq.mpr c22
                    clear c22
                    by_cases c23 : (!(t538 == 0) || (!(t539.toList == ([] : List UInt8)))) = true
                    · rw [if_pos c23] at H
                      have c23b0 : (!(t538 == 0) || (!(t539.toList == ([] : List UInt8)))) = true := c23
                      have c23b9 : (t538 = 0 ∧ t539.toList = ([] : List UInt8)) = False := eq_false (fun h => by simp [h.1, h.2] at c23b0)
                      have c23b8 : (¬ t538 = 0 ∨ ¬ t539.toList = ([] : List UInt8)) = True := eq_true (by simpa using c23b0)
                      clear c23
                      have H' := Aside0.mk H
                      clear H
                      have hcz24_0 : w19.cell? ⟨gb541, 0, none⟩ = some (.int .i64 0) := (blk_cell BK541.out 0).trans rfl
                      have hcz24_1 : w19.cell? ⟨gb541, 1, none⟩ = some (.string (⟨#[]⟩ : ByteArray)) := (blk_cell BK541.out 1).trans rfl
                      have hfz24_0 := blk_frozen BK541.out 0
                      have hfz24_1 := blk_frozen BK541.out 1
                      go_wp2
                      go_meet
                      case rel => exact ⟨_, (true), (by first | rfl | (simp; done) | (simp [*]; done) | (simp [wrap64]; done)), H', ⟨by have := HJ8.out; have := HK2.out; first | omega | exact Nat.le_refl _⟩, ⟨by (with_reducible repeat (first | refine blk_drewN ?_ _ | refine blk_drew ?_ | refine blk_alloc ?_ _)); refine blk_put (cs := #[.int .i64 t538, .string (⟨#[]⟩ : ByteArray)]) ?_ 1 _ rfl; (with_reducible repeat (first | refine blk_drewN ?_ _ | refine blk_drew ?_ | refine blk_alloc ?_ _)); refine blk_put (cs := #[.int .i64 0, .string (⟨#[]⟩ : ByteArray)]) ?_ 0 _ rfl; (with_reducible repeat (first | refine blk_drewN ?_ _ | refine blk_drew ?_ | refine blk_alloc ?_ _)); exact BK541.out⟩, ⟨by repeat (first | (with_reducible first | exact HB.out | apply below_alloc | apply pw_below_drewN | apply below_drew1 | refine below_set ?_ GE541.out) | exact HB.out)⟩⟩
                    · rw [if_neg c23] at H
                      have c23b0 : (!(t538 == 0) || (!(t539.toList == ([] : List UInt8)))) = false := by simpa using c23
                      have c23b9 : (t538 = 0 ∧ t539.toList = ([] : List UInt8)) = True := by simpa using c23b0
                      have c23b8 : (¬ t538 = 0 ∨ ¬ t539.toList = ([] : List UInt8)) = False := eq_false (fun h => by rcases h with h | h <;> simp [h] at c23b0)
                      clear c23
                      by_cases c25 : t535 ≤ 8
                      · rw [if_pos c25] at H
                        have c25b0 : decide (t535 ≤ 8) = true := decide_eq_true c25
                        clear c25
                        by_cases c26 : t540 = 0
                        · rw [if_pos c26] at H
                          have c26b0 : (t540 == 0) = true := beq_iff_eq.mpr c26
                          have c26b1 : (t540 != 0) = false := bne_eq_false_iff_eq.mpr c26
                          clear c26
                          have H' := Aside0.mk H
                          clear H
                          have hcz27_0 : w19.cell? ⟨gb541, 0, none⟩ = some (.int .i64 0) := (blk_cell BK541.out 0).trans rfl
                          have hcz27_1 : w19.cell? ⟨gb541, 1, none⟩ = some (.string (⟨#[]⟩ : ByteArray)) := (blk_cell BK541.out 1).trans rfl
                          have hfz27_0 := blk_frozen BK541.out 0
                          have hfz27_1 := blk_frozen BK541.out 1
                          go_wp2
                          go_meet
                          case rel => exact ⟨_, ((!(t538 == t535) || (!(t539.toList == x2_8.toList)))), (by first | rfl | (simp; done) | (simp [*]; done) | (simp [wrap64]; done)), H', ⟨by have := HJ8.out; have := HK2.out; first | omega | exact Nat.le_refl _⟩, ⟨by (with_reducible repeat (first | refine blk_drewN ?_ _ | refine blk_drew ?_ | refine blk_alloc ?_ _)); refine blk_put (cs := #[.int .i64 t538, .string (⟨#[]⟩ : ByteArray)]) ?_ 1 _ rfl; (with_reducible repeat (first | refine blk_drewN ?_ _ | refine blk_drew ?_ | refine blk_alloc ?_ _)); refine blk_put (cs := #[.int .i64 0, .string (⟨#[]⟩ : ByteArray)]) ?_ 0 _ rfl; (with_reducible repeat (first | refine blk_drewN ?_ _ | refine blk_drew ?_ | refine blk_alloc ?_ _)); exact BK541.out⟩, ⟨by repeat (first | (with_reducible first | exact HB.out | apply below_alloc | apply pw_below_drewN | apply below_drew1 | refine below_set ?_ GE541.out) | exact HB.out)⟩⟩
                        · rw [if_neg c26] at H
                          have c26b0 : (t540 == 0) = false := beq_eq_false_iff_ne.mpr c26
                          have c26b1 : (t540 != 0) = true := bne_iff_ne.mpr c26
                          have H' := Aside0.mk H
                          clear H
                          have hcz28_0 : w19.cell? ⟨gb541, 0, none⟩ = some (.int .i64 0) := (blk_cell BK541.out 0).trans rfl
                          have hcz28_1 : w19.cell? ⟨gb541, 1, none⟩ = some (.string (⟨#[]⟩ : ByteArray)) := (blk_cell BK541.out 1).trans rfl
                          have hfz28_0 := blk_frozen BK541.out 0
                          have hfz28_1 := blk_frozen BK541.out 1
                          go_wp2
                          go_meet
                          case rel => exact ⟨_, (true), (by first | rfl | (simp; done) | (simp [*]; done) | (simp [wrap64]; done)), H', ⟨by have := HJ8.out; have := HK2.out; first | omega | exact Nat.le_refl _⟩, ⟨by (with_reducible repeat (first | refine blk_drewN ?_ _ | refine blk_drew ?_ | refine blk_alloc ?_ _)); refine blk_put (cs := #[.int .i64 t538, .string (⟨#[]⟩ : ByteArray)]) ?_ 1 _ rfl; (with_reducible repeat (first | refine blk_drewN ?_ _ | refine blk_drew ?_ | refine blk_alloc ?_ _)); refine blk_put (cs := #[.int .i64 0, .string (⟨#[]⟩ : ByteArray)]) ?_ 0 _ rfl; (with_reducible repeat (first | refine blk_drewN ?_ _ | refine blk_drew ?_ | refine blk_alloc ?_ _)); exact BK541.out⟩, ⟨by repeat (first | (with_reducible first | exact HB.out | apply below_alloc | apply pw_below_drewN | apply below_drew1 | refine below_set ?_ GE541.out) | exact HB.out)⟩⟩
                      · rw [if_neg c25] at H
                        have c25b0 : decide (t535 ≤ 8) = false := decide_eq_false c25
                        clear c25
                        have H' := Aside0.mk H
                        clear H
                        have hcz29_0 : w19.cell? ⟨gb541, 0, none⟩ = some (.int .i64 0) := (blk_cell BK541.out 0).trans rfl
                        have hcz29_1 : w19.cell? ⟨gb541, 1, none⟩ = some (.string (⟨#[]⟩ : ByteArray)) := (blk_cell BK541.out 1).trans rfl
                        have hfz29_0 := blk_frozen BK541.out 0
                        have hfz29_1 := blk_frozen BK541.out 1
                        go_wp2
                        go_meet
                        case rel => exact ⟨_, (false), (by first | rfl | (simp; done) | (simp [*]; done) | (simp [wrap64]; done)), H', ⟨by have := HJ8.out; have := HK2.out; first | omega | exact Nat.le_refl _⟩, ⟨by (with_reducible repeat (first | refine blk_drewN ?_ _ | refine blk_drew ?_ | refine blk_alloc ?_ _)); refine blk_put (cs := #[.int .i64 t538, .string (⟨#[]⟩ : ByteArray)]) ?_ 1 _ rfl; (with_reducible repeat (first | refine blk_drewN ?_ _ | refine blk_drew ?_ | refine blk_alloc ?_ _)); refine blk_put (cs := #[.int .i64 0, .string (⟨#[]⟩ : ByteArray)]) ?_ 0 _ rfl; (with_reducible repeat (first | refine blk_drewN ?_ _ | refine blk_drew ?_ | refine blk_alloc ?_ _)); exact BK541.out⟩, ⟨by repeat (first | (with_reducible first | exact HB.out | apply below_alloc | apply pw_below_drewN | apply below_drew1 | refine below_set ?_ GE541.out) | exact HB.out)⟩⟩
                  · rw [if_neg c22] at H
                    have c22b0 : (t540 == 15) = false := beq_eq_false_iff_ne.mpr c22
                    have c22b1 : (t540 != 15) = true := bne_iff_ne.mpr c22
                    have H' := Aside0.mk H
                    clear H
                    go_wp2
                    go_meet
                    case rel => exact ⟨_, (true), (by first | rfl | (simp; done) | (simp [*]; done) | (simp [wrap64]; done)), H', ⟨by have := HJ8.out; have := HK2.out; first | omega | exact Nat.le_refl _⟩, ⟨by (with_reducible repeat (first | refine blk_drewN ?_ _ | refine blk_drew ?_ | refine blk_alloc ?_ _)); refine blk_put (cs := #[.int .i64 t538, .string (⟨#[]⟩ : ByteArray)]) ?_ 1 _ rfl; (with_reducible repeat (first | refine blk_drewN ?_ _ | refine blk_drew ?_ | refine blk_alloc ?_ _)); refine blk_put (cs := #[.int .i64 0, .string (⟨#[]⟩ : ByteArray)]) ?_ 0 _ rfl; (with_reducible repeat (first | refine blk_drewN ?_ _ | refine blk_drew ?_ | refine blk_alloc ?_ _)); exact BK541.out⟩, ⟨by repeat (first | (with_reducible first | exact HB.out | apply below_alloc | apply pw_below_drewN | apply below_drew1 | refine below_set ?_ GE541.out) | exact HB.out)⟩⟩
                · rw [if_neg c21] at H
                  have c21b0 : decide (8 < t535) = false := decide_eq_false c21
                  clear c21
                  (first | rw [c21b0] | (simp only [i64_w, i32_w]; rw [c21b0]) | skip)
                  by_cases c30 : t535 ≤ 8
                  · rw [if_pos c30] at H
                    have c30b0 : decide (t535 ≤ 8) = true := decide_eq_true c30
                    clear c30
                    by_cases c31 : t540 = 0
                    · rw [if_pos c31] at H
                      have c31b0 : (t540 == 0) = true := beq_iff_eq.mpr c31
                      have c31b1 : (t540 != 0) = false := bne_eq_false_iff_eq.mpr c31
                      clear c31
                      have H' := Aside0.mk H
                      clear H
                      have hcz32_0 : w19.cell? ⟨gb541, 0, none⟩ = some (.int .i64 0) := (blk_cell BK541.out 0).trans rfl
                      have hcz32_1 : w19.cell? ⟨gb541, 1, none⟩ = some (.string (⟨#[]⟩ : ByteArray)) := (blk_cell BK541.out 1).trans rfl
                      have hfz32_0 := blk_frozen BK541.out 0
                      have hfz32_1 := blk_frozen BK541.out 1
                      go_wp2
                      go_meet
                      case rel => exact ⟨_, ((!(t538 == t535) || (!(t539.toList == x2_8.toList)))), (by first | rfl | (simp; done) | (simp [*]; done) | (simp [wrap64]; done)), H', ⟨by have := HJ8.out; have := HK2.out; first | omega | exact Nat.le_refl _⟩, ⟨by (with_reducible repeat (first | refine blk_drewN ?_ _ | refine blk_drew ?_ | refine blk_alloc ?_ _)); refine blk_put (cs := #[.int .i64 t538, .string (⟨#[]⟩ : ByteArray)]) ?_ 1 _ rfl; (with_reducible repeat (first | refine blk_drewN ?_ _ | refine blk_drew ?_ | refine blk_alloc ?_ _)); refine blk_put (cs := #[.int .i64 0, .string (⟨#[]⟩ : ByteArray)]) ?_ 0 _ rfl; (with_reducible repeat (first | refine blk_drewN ?_ _ | refine blk_drew ?_ | refine blk_alloc ?_ _)); exact BK541.out⟩, ⟨by repeat (first | (with_reducible first | exact HB.out | apply below_alloc | apply pw_below_drewN | apply below_drew1 | refine below_set ?_ GE541.out) | exact HB.out)⟩⟩
                    · rw [if_neg c31] at H
                      have c31b0 : (t540 == 0) = false := beq_eq_false_iff_ne.mpr c31
                      have c31b1 : (t540 != 0) = true := bne_iff_ne.mpr c31
                      have H' := Aside0.mk H
                      clear H
                      go_wp2
                      go_meet
                      case rel => exact ⟨_, (true), (by first | rfl | (simp; done) | (simp [*]; done) | (simp [wrap64]; done)), H', ⟨by have := HJ8.out; have := HK2.out; first | omega | exact Nat.le_refl _⟩, ⟨by (with_reducible repeat (first | refine blk_drewN ?_ _ | refine blk_drew ?_ | refine blk_alloc ?_ _)); refine blk_put (cs := #[.int .i64 t538, .string (⟨#[]⟩ : ByteArray)]) ?_ 1 _ rfl; (with_reducible repeat (first | refine blk_drewN ?_ _ | refine blk_drew ?_ | refine blk_alloc ?_ _)); refine blk_put (cs := #[.int .i64 0, .string (⟨#[]⟩ : ByteArray)]) ?_ 0 _ rfl; (with_reducible repeat (first | refine blk_drewN ?_ _ | refine blk_drew ?_ | refine blk_alloc ?_ _)); exact BK541.out⟩, ⟨by repeat (first | (with_reducible first | exact HB.out | apply below_alloc | apply pw_below_drewN | apply below_drew1 | refine below_set ?_ GE541.out) | exact HB.out)⟩⟩
                  · rw [if_neg c30] at H
                    have c30b0 : decide (t535 ≤ 8) = false := decide_eq_false c30
                    clear c30
                    have H' := Aside0.mk H
                    clear H
                    go_wp2
                    go_meet
                    case rel => exact ⟨_, (false), (by first | rfl | (simp; done) | (simp [*]; done) | (simp [wrap64]; done)), H', ⟨by have := HJ8.out; have := HK2.out; first | omega | exact Nat.le_refl _⟩, ⟨by (with_reducible repeat (first | refine blk_drewN ?_ _ | refine blk_drew ?_ | refine blk_alloc ?_ _)); refine blk_put (cs := #[.int .i64 t538, .string (⟨#[]⟩ : ByteArray)]) ?_ 1 _ rfl; (with_reducible repeat (first | refine blk_drewN ?_ _ | refine blk_drew ?_ | refine blk_alloc ?_ _)); refine blk_put (cs := #[.int .i64 0, .string (⟨#[]⟩ : ByteArray)]) ?_ 0 _ rfl; (with_reducible repeat (first | refine blk_drewN ?_ _ | refine blk_drew ?_ | refine blk_alloc ?_ _)); exact BK541.out⟩, ⟨by repeat (first | (with_reducible first | exact HB.out | apply below_alloc | apply pw_below_drewN | apply below_drew1 | refine below_set ?_ GE541.out) | exact HB.out)⟩⟩
              case rest =>
                clear HC17
                try clear c1
                try clear c2
                try clear p2
                try clear c3
                try clear c5
                try clear p6
                try clear c11
                try clear c12
                try clear c12b0
                try clear c12b1
                try clear c12b2
                try clear c13
                try clear c13b0
                try clear c13b1
                try clear c13b2
                try clear c14
                try clear c14b0
                try clear c15
                try clear c15b0
                try clear c15b1
                try clear c15b2
                try clear c16
                try clear c17
                try clear c18
                try clear c21
                try clear c21b0
                try clear c22
                try clear c22b0
                try clear c22b1
                try clear c23
                try clear c23b0
                try clear c25
                try clear c25b0
                try clear c26
                try clear c26b0
                try clear c26b1
                try clear c30
                try clear c30b0
                try clear c31
                try clear c31b0
                try clear c31b1
                try clear hcz20_0
                try clear hcz20_1
                try clear hcz24_0
                try clear hcz24_1
                try clear hcz27_0
                try clear hcz27_1
                try clear hcz28_0
                try clear hcz28_1
                try clear hcz29_0
                try clear hcz29_1
                try clear hcz32_0
                try clear hcz32_1
                try clear hfz20_0
                try clear hfz20_1
                try clear hfz24_0
                try clear hfz24_1
                try clear hfz27_0
                try clear hfz27_1
                try clear hfz28_0
                try clear hfz28_1
                try clear hfz29_0
                try clear hfz29_1
                try clear hfz32_0
                try clear hfz32_1
                try clear p2
                obtain ⟨kq, x65_16, rfl, HA, HJ16, BK541, HB⟩ := hcut
                cases kq with
                | zero => exact absurd HA.out (by simp [keystonelaw2_DescLimits.j2])
                | succ kj16 =>
                  have H := HA.out
                  clear HA
                  simp only [keystonelaw2_DescLimits.j2] at H
                  by_cases c33 : x65_16 = true
                  · subst c33
                    have H1 : (some false) = some r := by rw [if_pos rfl] at H; exact H
                    clear H
                    have H := H1
                    clear H1
                    obtain rfl := Option.some.inj H
                    exact absurd HT.out (by decide)
                  · replace c33 := Bool.eq_false_iff.mpr c33
                    subst c33
                    have H1 : (keystonelaw2_DescLimits.l1 kj16 t536 x2_8 x7_8 (⟨#[40]⟩ : ByteArray) 0) = some r := by rw [if_neg (show ¬ (false = true) by decide)] at H; exact H
                    clear H
                    have H := H1
                    clear H1
                    have H' := Aside0.mk H
                    clear H
                    go_wp2
                    go_loopg [12, 13] kj16 (fun kq v12 v13 w' => ∃ (x12_4 : ByteArray) (x13_4 : Int), v12 = .string x12_4 ∧ v13 = .int .i64 x13_4 ∧ Aside0 (keystonelaw2_DescLimits.l1 kq t536 x2_8 x7_8 x12_4 x13_4 = some r) ∧ Aside0 (kq ≤ kj16) ∧ Aside0 (w'.heap[gb541]? = some (.cells #[.int .i64 t538, .string t539] 26 (0, 0))) ∧ Aside0 (Below w.heap.size w w'))
                    case atStart => exact ⟨((⟨#[40]⟩ : ByteArray)), (0), (by first | rfl | (simp; done) | (simp [*]; done) | (simp [wrap64]; done)), (by first | rfl | (simp; done) | (simp [*]; done) | (simp [wrap64]; done)), H', ⟨Nat.le_refl _⟩, ⟨by (with_reducible repeat (first | refine blk_drewN ?_ _ | refine blk_drew ?_ | refine blk_alloc ?_ _)); exact BK541.out⟩, ⟨by repeat (first | (with_reducible first | exact HB.out | apply below_alloc | apply pw_below_drewN | apply below_drew1 | refine below_set ?_ GE541.out) | exact HB.out)⟩⟩
                    case round =>
                      clear H'
                      try clear c1
                      try clear c2
                      try clear p2
                      try clear c3
                      try clear c5
                      try clear p6
                      try clear c11
                      try clear c12
                      try clear c12b0
                      try clear c12b1
                      try clear c12b2
                      try clear c13
                      try clear c13b0
                      try clear c13b1
                      try clear c13b2
                      try clear c14
                      try clear c14b0
                      try clear c15
                      try clear c15b0
                      try clear c15b1
                      try clear c15b2
                      try clear c16
                      try clear c17
                      try clear c18
                      try clear c21
                      try clear c21b0
                      try clear c22
                      try clear c22b0
                      try clear c22b1
                      try clear c23
                      try clear c23b0
                      try clear c25
                      try clear c25b0
                      try clear c26
                      try clear c26b0
                      try clear c26b1
                      try clear c30
                      try clear c30b0
                      try clear c31
                      try clear c31b0
                      try clear c31b1
                      try clear c33
                      try clear hcz20_0
                      try clear hcz20_1
                      try clear hcz24_0
                      try clear hcz24_1
                      try clear hcz27_0
                      try clear hcz27_1
                      try clear hcz28_0
                      try clear hcz28_1
                      try clear hcz29_0
                      try clear hcz29_1
                      try clear hcz32_0
                      try clear hcz32_1
                      try clear hfz20_0
                      try clear hfz20_1
                      try clear hfz24_0
                      try clear hfz24_1
                      try clear hfz27_0
                      try clear hfz27_1
                      try clear hfz28_0
                      try clear hfz28_1
                      try clear hfz29_0
                      try clear hfz29_1
                      try clear hfz32_0
                      try clear hfz32_1
                      try clear p2
                      try clear p6
                      obtain ⟨x12_4, x13_4, rfl, rfl, HA, HK4, BK541, HB⟩ := hrel
                      cases gk with
                      | zero => exact absurd HA.out (by simp [keystonelaw2_DescLimits.l1])
                      | succ k4 =>
                        have H := HA.out
                        clear HA
                        simp only [keystonelaw2_DescLimits.l1] at H
                        by_cases c34 : x13_4 < t536
                        · rw [if_pos c34] at H
                          have c34b0 : decide (x13_4 < t536) = true := decide_eq_true c34
                          clear c34
                          by_cases c35 : x12_4.size + x7_8.size ≤ 9223372036854775807
                          · rw [if_pos c35] at H
                            have c35b0 := eq_true c35
                            have c35b1 : decide (x12_4.size + x7_8.size ≤ 9223372036854775807) = true := decide_eq_true c35
                            try have c35b2 : (9223372036854775807 < x12_4.size + x7_8.size) = False := eq_false (Nat.not_lt.2 c35)
                            have H' := Aside0.mk H
                            clear H
                            go_wp2
                            go_roundg k4
                            case measure => have := HJ8.out; have := HK2.out; have := HJ16.out; have := HK4.out; omega
                            case rel => exact ⟨(x12_4 ++ x7_8), (wrap64 (x13_4 + 1)), (by first | rfl | (simp; done) | (simp [*]; done) | (simp [wrap64]; done)), (by first | rfl | (simp; done) | (simp [*]; done) | (simp [wrap64]; done)), H', ⟨by have := HJ8.out; have := HK2.out; have := HJ16.out; have := HK4.out; omega⟩, ⟨by (with_reducible repeat (first | refine blk_drewN ?_ _ | refine blk_drew ?_ | refine blk_alloc ?_ _)); exact BK541.out⟩, ⟨by repeat (first | (with_reducible first | exact HB.out | apply below_alloc | apply pw_below_drewN | apply below_drew1 | refine below_set ?_ GE541.out) | exact HB.out)⟩⟩
                          · rw [if_neg c35] at H
                            exact absurd H (by simp)
                        · rw [if_neg c34] at H
                          have c34b0 : decide (x13_4 < t536) = false := decide_eq_false c34
                          clear c34
                          by_cases c36 : x12_4.size + 1 ≤ 9223372036854775807
                          · rw [if_pos c36] at H
                            have c36b0 := eq_true c36
                            have c36b1 : decide (x12_4.size + 1 ≤ 9223372036854775807) = true := decide_eq_true c36
                            try have c36b2 : (9223372036854775807 < x12_4.size + 1) = False := eq_false (Nat.not_lt.2 c36)
                            by_cases c37 : (x12_4 ++ (⟨#[41]⟩ : ByteArray)).size + x7_8.size ≤ 9223372036854775807
                            · rw [if_pos c37] at H
                              have c37b0 := eq_true c37
                              have c37b1 : decide ((x12_4 ++ (⟨#[41]⟩ : ByteArray)).size + x7_8.size ≤ 9223372036854775807) = true := decide_eq_true c37
                              try have c37b2 : (9223372036854775807 < (x12_4 ++ (⟨#[41]⟩ : ByteArray)).size + x7_8.size) = False := eq_false (Nat.not_lt.2 c37)
                              (try (have c37b3 := c37b2; simp only [ByteArray.size_append, show (⟨#[41]⟩ : ByteArray).size = 1 from rfl] at c37b3))
                              replace H := Option.bind_eq_some_iff.mp H
                              obtain ⟨⟨t542, t545, t546, t547, t548⟩, A380, H⟩ := H
                              replace H : (if t536 > 16 then (if t548 = 4 then (some ((t542.length : Int) == 0)) else (some false)) else (if t548 = 0 then (if (t542.length : Int) = t536 then (some (t546 == 0 && (t547.toList == x2_8.toList))) else (some false)) else (some false))) = some r := H
                              have A38 := Aside0.mk A380
                              clear A380
                              by_cases c39 : t536 > 16
                              · rw [if_pos c39] at H
                                have c39b0 : decide (16 < t536) = true := decide_eq_true c39
                                clear c39
                                by_cases c40 : t548 = 4
                                · rw [if_pos c40] at H
                                  have c40b0 : (t548 == 4) = true := beq_iff_eq.mpr c40
                                  have c40b1 : (t548 != 4) = false := bne_eq_false_iff_eq.mpr c40
                                  clear c40
                                  obtain rfl := Option.some.inj H
                                  go_wp2_with (first | ((with_reducible refine gate_callee (f := 19) rfl ?_); refine goesL_ (some 79) rfl rfl Tryd.func19 (by kernel_rfl) rfl #[.string ((x12_4 ++ (⟨#[41]⟩ : ByteArray)) ++ x7_8)] rfl (by (try simp only [List.map_toArray, List.map_cons, List.map_nil]); first | done | rfl | (simp only [List.length_drop, List.length_take]; rfl)) ?_; (with_reducible refine (desc_Sig.calls k4 ((x12_4 ++ (⟨#[41]⟩ : ByteArray)) ++ x7_8) t542 t545 t546 t547 t548 _ A38.out).mono ?_); rintro e w41 ⟨v543, rfl, ho0, hb⟩; refine ⟨_, rfl, ?_⟩; have n0_ := Aside0.mk (Kd.R_lower (Kd.R_newB ho0 (g := gb541) (o := .cells #[.int .i64 t538, .string t539] 26 (0, 0)) (by (with_reducible repeat (first | refine blk_drewN ?_ _ | refine blk_drew ?_ | refine blk_alloc ?_ _)); exact BK541.out)) (below_size (by repeat (first | (with_reducible first | exact HB.out | apply below_alloc | apply pw_below_drewN | apply below_drew1 | refine below_set ?_ GE541.out) | exact HB.out)))); have n1_ := Aside0.mk (blk_below (g := gb541) (o := .cells #[.int .i64 t538, .string t539] 26 (0, 0)) (by (with_reducible repeat (first | refine blk_drewN ?_ _ | refine blk_drew ?_ | refine blk_alloc ?_ _)); exact BK541.out) hb); have n2_ := Aside0.mk (below_step (by repeat (first | (with_reducible first | exact HB.out | apply below_alloc | apply pw_below_drewN | apply below_drew1 | refine below_set ?_ GE541.out) | exact HB.out)) hb); clear BK541; clear HB; have HO544 := n0_; have BK541 := n1_; have HB := n2_; clear n0_ n1_ n2_; (try clear hb); (try clear hb2); (try clear hk); (try clear hi); (try clear ho0)) | ((with_reducible refine gate_dst (N := 14) rfl ?_); (try (refine gate_guard (by rfl) ?_; dsimp only)); refine box_event ?hg (N := 14) ?hd (cs := #[.slice none 0 0, .bool false, .int .i64 0, .string (⟨#[]⟩ : ByteArray)]) (t := 32) ?hr ?_; (case hd => rfl); (case hg => rfl); (case hr => first | (go_simp; done) | (go_simp; rfl)); intro gb549 hg w42 hbox hb; have n0_ := Aside0.mk (Kd.R_below (by (with_reducible repeat (first | apply Kd.R_alloc | apply Kd.R_drewN | apply Kd.R_drew)); exact HO544.out) hb); have n1_ := Aside0.mk (blk_below (g := gb541) (o := .cells #[.int .i64 t538, .string t539] 26 (0, 0)) (by (with_reducible repeat (first | refine blk_drewN ?_ _ | refine blk_drew ?_ | refine blk_alloc ?_ _)); exact BK541.out) hb); have n2_ := Aside0.mk (below_step (by repeat (first | (with_reducible first | exact HB.out | apply below_alloc | apply pw_below_drewN | apply below_drew1 | refine below_set ?_ GE541.out) | exact HB.out)) hb); have n3_ := Aside0.mk (hbox); have n4_ := Aside0.mk ((by rw [hg]; exact (below_size (by repeat (first | (with_reducible first | exact HB.out | apply below_alloc | apply pw_below_drewN | apply below_drew1 | refine below_set ?_ GE541.out) | exact HB.out))) : w.heap.size ≤ gb549)); have n5_ := Aside0.mk ((by rw [hg]; exact (below_size (by repeat (first | (with_reducible first | exact HB.out | apply below_alloc | apply pw_below_drewN | apply below_drew1 | refine below_set ?_ GE541.out) | exact HB.out))) : w.heap.size ≤ gb549)); have n6_ := Aside0.mk ((by rw [hg]; exact Nat.ne_of_lt (blk_lt (g := gb541) (o := .cells #[.int .i64 t538, .string t539] 26 (0, 0)) (by (with_reducible repeat (first | refine blk_drewN ?_ _ | refine blk_drew ?_ | refine blk_alloc ?_ _)); exact BK541.out)) : gb541 ≠ gb549)); have n7_ := Aside0.mk ((by rw [hg]; exact Nat.ne_of_gt (blk_lt (g := gb541) (o := .cells #[.int .i64 t538, .string t539] 26 (0, 0)) (by (with_reducible repeat (first | refine blk_drewN ?_ _ | refine blk_drew ?_ | refine blk_alloc ?_ _)); exact BK541.out)) : gb549 ≠ gb541)); clear HO544; clear BK541; clear HB; have HO544 := n0_; have BK541 := n1_; have HB := n2_; have BK549 := n3_; have GW549 := n4_; have GE549 := n5_; have NB541_549 := n6_; have NB549_541 := n7_; clear n0_ n1_ n2_ n3_ n4_ n5_ n6_ n7_; clear hb hbox hg; obtain ⟨Ao43, co43, eo43⟩ := Kd.R_slice HO544.out; subst eo43; have hnb44 := NB549_541.out; have hnc44 := NB541_549.out; have hcz45_0 : w42.cell? ⟨gb549, 0, none⟩ = some (.slice none 0 0) := (blk_cell BK549.out 0).trans rfl; have hcz45_1 : w42.cell? ⟨gb549, 1, none⟩ = some (.bool false) := (blk_cell BK549.out 1).trans rfl; have hcz45_2 : w42.cell? ⟨gb549, 2, none⟩ = some (.int .i64 0) := (blk_cell BK549.out 2).trans rfl; have hcz45_3 : w42.cell? ⟨gb549, 3, none⟩ = some (.string (⟨#[]⟩ : ByteArray)) := (blk_cell BK549.out 3).trans rfl; have hfz45_0 := blk_frozen BK549.out 0; have hfz45_1 := blk_frozen BK549.out 1; have hfz45_2 := blk_frozen BK549.out 2; have hfz45_3 := blk_frozen BK549.out 3))
                                  go_ret
                                  exact ⟨by first | rfl | (simp [errW_none, errW_some] <;> rfl) | (simp [*, errW_none, errW_some] <;> rfl), by repeat (first | (with_reducible first | exact HB.out | apply below_alloc | apply pw_below_drewN | apply below_drew1 | refine below_set ?_ GE541.out | refine below_set ?_ GE549.out) | exact HB.out)⟩
                                · rw [if_neg c40] at H
                                  have c40b0 : (t548 == 4) = false := beq_eq_false_iff_ne.mpr c40
                                  have c40b1 : (t548 != 4) = true := bne_iff_ne.mpr c40
                                  obtain rfl := Option.some.inj H
                                  exact absurd HT.out (by decide)
                              · rw [if_neg c39] at H
                                have c39b0 : decide (16 < t536) = false := decide_eq_false c39
                                clear c39
                                by_cases c46 : t548 = 0
                                · rw [if_pos c46] at H
                                  have c46b0 : (t548 == 0) = true := beq_iff_eq.mpr c46
                                  have c46b1 : (t548 != 0) = false := bne_eq_false_iff_eq.mpr c46
                                  clear c46
                                  by_cases c47 : (t542.length : Int) = t536
                                  · rw [if_pos c47] at H
                                    have c47b0 : ((t542.length : Int) == t536) = true := beq_iff_eq.mpr c47
                                    have c47b1 : ((t542.length : Int) != t536) = false := bne_eq_false_iff_eq.mpr c47
                                    clear c47
                                    obtain rfl := Option.some.inj H
                                    go_wp2_with (first | ((with_reducible refine gate_callee (f := 19) rfl ?_); refine goesL_ (some 79) rfl rfl Tryd.func19 (by kernel_rfl) rfl #[.string ((x12_4 ++ (⟨#[41]⟩ : ByteArray)) ++ x7_8)] rfl (by (try simp only [List.map_toArray, List.map_cons, List.map_nil]); first | done | rfl | (simp only [List.length_drop, List.length_take]; rfl)) ?_; (with_reducible refine (desc_Sig.calls k4 ((x12_4 ++ (⟨#[41]⟩ : ByteArray)) ++ x7_8) t542 t545 t546 t547 t548 _ A38.out).mono ?_); rintro e w48 ⟨v543, rfl, ho0, hb⟩; refine ⟨_, rfl, ?_⟩; have n0_ := Aside0.mk (Kd.R_lower (Kd.R_newB ho0 (g := gb541) (o := .cells #[.int .i64 t538, .string t539] 26 (0, 0)) (by (with_reducible repeat (first | refine blk_drewN ?_ _ | refine blk_drew ?_ | refine blk_alloc ?_ _)); exact BK541.out)) (below_size (by repeat (first | (with_reducible first | exact HB.out | apply below_alloc | apply pw_below_drewN | apply below_drew1 | refine below_set ?_ GE541.out) | exact HB.out)))); have n1_ := Aside0.mk (blk_below (g := gb541) (o := .cells #[.int .i64 t538, .string t539] 26 (0, 0)) (by (with_reducible repeat (first | refine blk_drewN ?_ _ | refine blk_drew ?_ | refine blk_alloc ?_ _)); exact BK541.out) hb); have n2_ := Aside0.mk (below_step (by repeat (first | (with_reducible first | exact HB.out | apply below_alloc | apply pw_below_drewN | apply below_drew1 | refine below_set ?_ GE541.out) | exact HB.out)) hb); clear BK541; clear HB; have HO544 := n0_; have BK541 := n1_; have HB := n2_; clear n0_ n1_ n2_; (try clear hb); (try clear hb2); (try clear hk); (try clear hi); (try clear ho0)) | ((with_reducible refine gate_dst (N := 14) rfl ?_); (try (refine gate_guard (by rfl) ?_; dsimp only)); refine box_event ?hg (N := 14) ?hd (cs := #[.slice none 0 0, .bool false, .int .i64 0, .string (⟨#[]⟩ : ByteArray)]) (t := 32) ?hr ?_; (case hd => rfl); (case hg => rfl); (case hr => first | (go_simp; done) | (go_simp; rfl)); intro gb549 hg w49 hbox hb; have n0_ := Aside0.mk (Kd.R_below (by (with_reducible repeat (first | apply Kd.R_alloc | apply Kd.R_drewN | apply Kd.R_drew)); exact HO544.out) hb); have n1_ := Aside0.mk (blk_below (g := gb541) (o := .cells #[.int .i64 t538, .string t539] 26 (0, 0)) (by (with_reducible repeat (first | refine blk_drewN ?_ _ | refine blk_drew ?_ | refine blk_alloc ?_ _)); exact BK541.out) hb); have n2_ := Aside0.mk (below_step (by repeat (first | (with_reducible first | exact HB.out | apply below_alloc | apply pw_below_drewN | apply below_drew1 | refine below_set ?_ GE541.out) | exact HB.out)) hb); have n3_ := Aside0.mk (hbox); have n4_ := Aside0.mk ((by rw [hg]; exact (below_size (by repeat (first | (with_reducible first | exact HB.out | apply below_alloc | apply pw_below_drewN | apply below_drew1 | refine below_set ?_ GE541.out) | exact HB.out))) : w.heap.size ≤ gb549)); have n5_ := Aside0.mk ((by rw [hg]; exact (below_size (by repeat (first | (with_reducible first | exact HB.out | apply below_alloc | apply pw_below_drewN | apply below_drew1 | refine below_set ?_ GE541.out) | exact HB.out))) : w.heap.size ≤ gb549)); have n6_ := Aside0.mk ((by rw [hg]; exact Nat.ne_of_lt (blk_lt (g := gb541) (o := .cells #[.int .i64 t538, .string t539] 26 (0, 0)) (by (with_reducible repeat (first | refine blk_drewN ?_ _ | refine blk_drew ?_ | refine blk_alloc ?_ _)); exact BK541.out)) : gb541 ≠ gb549)); have n7_ := Aside0.mk ((by rw [hg]; exact Nat.ne_of_gt (blk_lt (g := gb541) (o := .cells #[.int .i64 t538, .string t539] 26 (0, 0)) (by (with_reducible repeat (first | refine blk_drewN ?_ _ | refine blk_drew ?_ | refine blk_alloc ?_ _)); exact BK541.out)) : gb549 ≠ gb541)); clear HO544; clear BK541; clear HB; have HO544 := n0_; have BK541 := n1_; have HB := n2_; have BK549 := n3_; have GW549 := n4_; have GE549 := n5_; have NB541_549 := n6_; have NB549_541 := n7_; clear n0_ n1_ n2_ n3_ n4_ n5_ n6_ n7_; clear hb hbox hg; obtain ⟨Ao50, co50, eo50⟩ := Kd.R_slice HO544.out; subst eo50; have hnb51 := NB549_541.out; have hnc51 := NB541_549.out; have hcz52_0 : w49.cell? ⟨gb549, 0, none⟩ = some (.slice none 0 0) := (blk_cell BK549.out 0).trans rfl; have hcz52_1 : w49.cell? ⟨gb549, 1, none⟩ = some (.bool false) := (blk_cell BK549.out 1).trans rfl; have hcz52_2 : w49.cell? ⟨gb549, 2, none⟩ = some (.int .i64 0) := (blk_cell BK549.out 2).trans rfl; have hcz52_3 : w49.cell? ⟨gb549, 3, none⟩ = some (.string (⟨#[]⟩ : ByteArray)) := (blk_cell BK549.out 3).trans rfl; have hfz52_0 := blk_frozen BK549.out 0; have hfz52_1 := blk_frozen BK549.out 1; have hfz52_2 := blk_frozen BK549.out 2; have hfz52_3 := blk_frozen BK549.out 3))
                                    go_ret
                                    exact ⟨by first | rfl | (simp [errW_none, errW_some] <;> rfl) | (simp [*, errW_none, errW_some] <;> rfl), by repeat (first | (with_reducible first | exact HB.out | apply below_alloc | apply pw_below_drewN | apply below_drew1 | refine below_set ?_ GE541.out | refine below_set ?_ GE549.out) | exact HB.out)⟩
                                  · rw [if_neg c47] at H
                                    have c47b0 : ((t542.length : Int) == t536) = false := beq_eq_false_iff_ne.mpr c47
                                    have c47b1 : ((t542.length : Int) != t536) = true := bne_iff_ne.mpr c47
                                    obtain rfl := Option.some.inj H
                                    exact absurd HT.out (by decide)
                                · rw [if_neg c46] at H
                                  have c46b0 : (t548 == 0) = false := beq_eq_false_iff_ne.mpr c46
                                  have c46b1 : (t548 != 0) = true := bne_iff_ne.mpr c46
                                  obtain rfl := Option.some.inj H
                                  exact absurd HT.out (by decide)
                            · rw [if_neg c37] at H
                              exact absurd H (by simp)
                          · rw [if_neg c36] at H
                            exact absurd H (by simp)
  · replace c5 := Bool.eq_false_iff.mpr c5
    subst c5
    have H1 : (some false) = some r := by rw [if_neg (show ¬ (false = true) by decide)] at H; exact H
    clear H
    have H := H1
    clear H1
    obtain rfl := Option.some.inj H
    exact absurd HT.out (by decide)

end Go.Proofs.YtlajkmnmooilmaaDoor.P
