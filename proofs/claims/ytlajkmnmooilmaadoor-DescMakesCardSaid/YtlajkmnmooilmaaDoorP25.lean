-- Written by my program xprint.py (a patched run of the kit's print). Lean checks it.
import Derived.Test.YtlajkmnmooilmaaDoorP0
import Derived.Test.YtlajkmnmooilmaaDoorP1
import Derived.Test.YtlajkmnmooilmaaDoorP3
import Derived.Test.YtlajkmnmooilmaaDoorP18
import Derived.Test.YtlajkmnmooilmaaDoorP22
import Derived.Test.YtlajkmnmooilmaaDoorP23
import Derived.Test.YtlajkmnmooilmaaDoorP24
import Derived.Test.YtlajkmnmooilmaaDoorExt
import Derived.Test.YtlajkmnmooilmaaDoorExtClasses
namespace Go.Proofs.YtlajkmnmooilmaaDoor.P
open Go.RowKit Go.Proofs.YtlajkmnmooilmaaDoorW.PrintWords Go.Proofs.YtlajkmnmooilmaaDoorW.PrintLast Go.Proofs.YtlajkmnmooilmaaDoorW.PrintMore
attribute [local go_sem] max2_int min2_int max_two min_two max_three min_three max_four min_four   -- for this text's walks alone
set_option linter.unusedVariables false
set_option linter.unusedSimpArgs false

attribute [local go_sem high] eqA26
/-! ### keystonelaw2_DescMakes: function 12 -/
mutual
def keystonelaw2_DescMakes.j0 : Nat → List (S26) → List (S26) → List ByteArray → List ByteArray → Bool → Option (Bool)
  | 0, _, _, _, _, _ => none
  | k + 1, x1, x5, x10, x11, x53 => if x53 = true then (some false) else (keystonelaw2_DescMakes.l0 k x1 x5 x10 x11 0)
def keystonelaw2_DescMakes.l0 : Nat → List (S26) → List (S26) → List ByteArray → List ByteArray → Int → Option (Bool)
  | 0, _, _, _, _, _ => none
  | k + 1, x1, x5, x10, x11, x12 => if x12 < (x10.length : Int) then (if 0 ≤ x12 then (if x12 < (x11.length : Int) then (if (rdOf ByteArray.empty x10 x12).toList = (rdOf ByteArray.empty x11 x12).toList then (keystonelaw2_DescMakes.l0 k x1 x5 x10 x11 (wrap64 (x12 + 1))) else (some false)) else (none)) else (none)) else (keystonelaw2_DescMakes.l1 k x1 x5 0)
def keystonelaw2_DescMakes.l1 : Nat → List (S26) → List (S26) → Int → Option (Bool)
  | 0, _, _, _ => none
  | k + 1, x1, x5, x13 => if x13 < (x1.length : Int) then (if 0 ≤ x13 then (if x13 < (x5.length : Int) then (if (!(((rd_T26 x5 x13).f0) == ((rd_T26 x1 x13).f0)) || (!((((rd_T26 x5 x13).f1).toList) == (((rd_T26 x1 x13).f1).toList)))) = true then (some false) else (keystonelaw2_DescMakes.l1 k x1 x5 (wrap64 (x13 + 1)))) else (none)) else (none)) else (some true)
end
def keystonelaw2_DescMakes.f (k : Nat) (a0 : Bool) (l1 : List (S26)) : Option (Bool) := (keystonelaw2_known.f k).bind fun t406 => (if t406 = true then (if (l1.length : Int) > 100 then (some true) else ((some (([] : List (S26)) : List (S26))).bind fun y407 => (if y407.length + l1.length < 5864062014805 then ((some (y407 ++ l1 : List (S26))).bind fun y410 => ((desc_Make.f k a0 y410).bind fun bt413 => ((keystoneref2_Make.f k a0 l1).bind fun bt421 => ((desc_Classes.f y410).bind fun t429 => ((keystoneref2_Classes.f k l1).bind fun t432 => ((keystoneref2_Same.f k bt413.1 bt413.2.1 bt413.2.2.1 bt413.2.2.2.1 bt421.1 bt421.2.1 bt421.2.2.1 bt421.2.2.2.1).bind fun t435 => (if t435 = true then (if bt413.2.2.2.2 = bt421.2.2.2.2 then (keystonelaw2_DescMakes.j0 k l1 y410 t429 t432 ((t429.length : Int) != (t432.length : Int))) else (keystonelaw2_DescMakes.j0 k l1 y410 t429 t432 true)) else (keystonelaw2_DescMakes.j0 k l1 y410 t429 t432 true)))))))) else (none)))) else (some false))
theorem keystonelaw2_DescMakes.mono_l : ∀ k, (∀ y0 y1 y2 y3 y4, LeO (keystonelaw2_DescMakes.j0 k y0 y1 y2 y3 y4) (keystonelaw2_DescMakes.j0 (k + 1) y0 y1 y2 y3 y4)) ∧ (∀ y0 y1 y2 y3 y4, LeO (keystonelaw2_DescMakes.l0 k y0 y1 y2 y3 y4) (keystonelaw2_DescMakes.l0 (k + 1) y0 y1 y2 y3 y4)) ∧ (∀ y0 y1 y2, LeO (keystonelaw2_DescMakes.l1 k y0 y1 y2) (keystonelaw2_DescMakes.l1 (k + 1) y0 y1 y2))
  | 0 => ⟨fun _ _ _ _ _ r h => by simp [keystonelaw2_DescMakes.j0] at h, fun _ _ _ _ _ r h => by simp [keystonelaw2_DescMakes.l0] at h, fun _ _ _ r h => by simp [keystonelaw2_DescMakes.l1] at h⟩
  | k + 1 => by
    obtain ⟨ih0, ih1, ih2⟩ := keystonelaw2_DescMakes.mono_l k
    refine ⟨?_, ?_, ?_⟩
    · intro y0 y1 y2 y3 y4
      unfold keystonelaw2_DescMakes.j0
      repeat' first
      | (with_reducible exact ih0 _ _ _ _ _)
      | (with_reducible exact ih1 _ _ _ _ _)
      | (with_reducible exact ih2 _ _ _)
      | (with_reducible exact desc_Make.mono _ _ _)
      | (with_reducible exact keystonelaw2_known.mono _)
      | (with_reducible exact keystoneref2_Classes.mono _ _)
      | (with_reducible exact keystoneref2_Make.mono _ _ _)
      | (with_reducible exact keystoneref2_Same.mono _ _ _ _ _ _ _ _ _)
      | (with_reducible exact LeO.refl _)
      | (with_reducible exact LeO.none _)
      | (with_reducible refine LeO.ite ?_ ?_)
      | (with_reducible refine LeO.bind ?_ (fun _ => ?_))
      | exact ih0 _ _ _ _ _
      | exact ih1 _ _ _ _ _
      | exact ih2 _ _ _
      | exact desc_Make.mono _ _ _
      | exact keystonelaw2_known.mono _
      | exact keystoneref2_Classes.mono _ _
      | exact keystoneref2_Make.mono _ _ _
      | exact keystoneref2_Same.mono _ _ _ _ _ _ _ _ _
      | exact LeO.none _
      | refine LeO.ite ?_ ?_
      | refine LeO.bind ?_ (fun _ => ?_)
    · intro y0 y1 y2 y3 y4
      unfold keystonelaw2_DescMakes.l0
      repeat' first
      | (with_reducible exact ih0 _ _ _ _ _)
      | (with_reducible exact ih1 _ _ _ _ _)
      | (with_reducible exact ih2 _ _ _)
      | (with_reducible exact desc_Make.mono _ _ _)
      | (with_reducible exact keystonelaw2_known.mono _)
      | (with_reducible exact keystoneref2_Classes.mono _ _)
      | (with_reducible exact keystoneref2_Make.mono _ _ _)
      | (with_reducible exact keystoneref2_Same.mono _ _ _ _ _ _ _ _ _)
      | (with_reducible exact LeO.refl _)
      | (with_reducible exact LeO.none _)
      | (with_reducible refine LeO.ite ?_ ?_)
      | (with_reducible refine LeO.bind ?_ (fun _ => ?_))
      | exact ih0 _ _ _ _ _
      | exact ih1 _ _ _ _ _
      | exact ih2 _ _ _
      | exact desc_Make.mono _ _ _
      | exact keystonelaw2_known.mono _
      | exact keystoneref2_Classes.mono _ _
      | exact keystoneref2_Make.mono _ _ _
      | exact keystoneref2_Same.mono _ _ _ _ _ _ _ _ _
      | exact LeO.none _
      | refine LeO.ite ?_ ?_
      | refine LeO.bind ?_ (fun _ => ?_)
    · intro y0 y1 y2
      unfold keystonelaw2_DescMakes.l1
      repeat' first
      | (with_reducible exact ih0 _ _ _ _ _)
      | (with_reducible exact ih1 _ _ _ _ _)
      | (with_reducible exact ih2 _ _ _)
      | (with_reducible exact desc_Make.mono _ _ _)
      | (with_reducible exact keystonelaw2_known.mono _)
      | (with_reducible exact keystoneref2_Classes.mono _ _)
      | (with_reducible exact keystoneref2_Make.mono _ _ _)
      | (with_reducible exact keystoneref2_Same.mono _ _ _ _ _ _ _ _ _)
      | (with_reducible exact LeO.refl _)
      | (with_reducible exact LeO.none _)
      | (with_reducible refine LeO.ite ?_ ?_)
      | (with_reducible refine LeO.bind ?_ (fun _ => ?_))
      | exact ih0 _ _ _ _ _
      | exact ih1 _ _ _ _ _
      | exact ih2 _ _ _
      | exact desc_Make.mono _ _ _
      | exact keystonelaw2_known.mono _
      | exact keystoneref2_Classes.mono _ _
      | exact keystoneref2_Make.mono _ _ _
      | exact keystoneref2_Same.mono _ _ _ _ _ _ _ _ _
      | exact LeO.none _
      | refine LeO.ite ?_ ?_
      | refine LeO.bind ?_ (fun _ => ?_)
theorem keystonelaw2_DescMakes.mono : ∀ a0 a1 k, LeO (keystonelaw2_DescMakes.f k a0 a1) (keystonelaw2_DescMakes.f (k + 1) a0 a1) := by
  intro a0 a1 k
  obtain ⟨ih0, ih1, ih2⟩ := keystonelaw2_DescMakes.mono_l k
  unfold keystonelaw2_DescMakes.f
  repeat' first
      | (with_reducible exact ih0 _ _ _ _ _)
      | (with_reducible exact ih1 _ _ _ _ _)
      | (with_reducible exact ih2 _ _ _)
      | (with_reducible exact desc_Make.mono _ _ _)
      | (with_reducible exact keystonelaw2_known.mono _)
      | (with_reducible exact keystoneref2_Classes.mono _ _)
      | (with_reducible exact keystoneref2_Make.mono _ _ _)
      | (with_reducible exact keystoneref2_Same.mono _ _ _ _ _ _ _ _ _)
      | (with_reducible exact LeO.refl _)
      | (with_reducible exact LeO.none _)
      | (with_reducible refine LeO.ite ?_ ?_)
      | (with_reducible refine LeO.bind ?_ (fun _ => ?_))
      | exact ih0 _ _ _ _ _
      | exact ih1 _ _ _ _ _
      | exact ih2 _ _ _
      | exact desc_Make.mono _ _ _
      | exact keystonelaw2_known.mono _
      | exact keystoneref2_Classes.mono _ _
      | exact keystoneref2_Make.mono _ _ _
      | exact keystoneref2_Same.mono _ _ _ _ _ _ _ _ _
      | exact LeO.none _
      | refine LeO.ite ?_ ?_
      | refine LeO.bind ?_ (fun _ => ?_)
set_option maxHeartbeats 8000000 in
set_option maxRecDepth 100000 in
theorem keystonelaw2_DescMakes.calls (k : Nat) (a0 : Bool) (A1 : Option Addr) (c1 : Nat) (l1 : List (S26)) (r : Bool) (w : World) (hr1 : Kd.C k26 w A1 l1.length l1) (hc1 : l1.length ≤ c1) (hT : r = true) (h : keystonelaw2_DescMakes.f k a0 l1 = some r) :
    Calls Tryd.prog 12 #[.bool a0, .slice A1 l1.length c1] w fun e w' => e = .returned (.bool r) ∧ Below w.heap.size w w' := by
  have hu32 := Tryd.underlying32
  have hu26 := Tryd.underlying26
  have HR1 := Aside0.mk hr1
  have HC1 := Aside0.mk hc1
  clear hr1 hc1
  have HB := Aside0.mk (Below.refl w.heap.size w)
  have H : ((keystonelaw2_known.f k).bind fun t406 => (if t406 = true then (if (l1.length : Int) > 100 then (some true) else ((some (([] : List (S26)) : List (S26))).bind fun y407 => (if y407.length + l1.length < 5864062014805 then ((some (y407 ++ l1 : List (S26))).bind fun y410 => ((desc_Make.f k a0 y410).bind fun bt413 => ((keystoneref2_Make.f k a0 l1).bind fun bt421 => ((desc_Classes.f y410).bind fun t429 => ((keystoneref2_Classes.f k l1).bind fun t432 => ((keystoneref2_Same.f k bt413.1 bt413.2.1 bt413.2.2.1 bt413.2.2.2.1 bt421.1 bt421.2.1 bt421.2.2.1 bt421.2.2.2.1).bind fun t435 => (if t435 = true then (if bt413.2.2.2.2 = bt421.2.2.2.2 then (keystonelaw2_DescMakes.j0 k l1 y410 t429 t432 ((t429.length : Int) != (t432.length : Int))) else (keystonelaw2_DescMakes.j0 k l1 y410 t429 t432 true)) else (keystonelaw2_DescMakes.j0 k l1 y410 t429 t432 true)))))))) else (none)))) else (some false))) = some r := h
  clear h
  have HT := Aside0.mk hT
  clear hT
  replace H := Option.bind_eq_some_iff.mp H
  obtain ⟨t406, A30, H⟩ := H
  replace H : (if t406 = true then (if (l1.length : Int) > 100 then (some true) else ((some (([] : List (S26)) : List (S26))).bind fun y407 => (if y407.length + l1.length < 5864062014805 then ((some (y407 ++ l1 : List (S26))).bind fun y410 => ((desc_Make.f k a0 y410).bind fun bt413 => ((keystoneref2_Make.f k a0 l1).bind fun bt421 => ((desc_Classes.f y410).bind fun t429 => ((keystoneref2_Classes.f k l1).bind fun t432 => ((keystoneref2_Same.f k bt413.1 bt413.2.1 bt413.2.2.1 bt413.2.2.2.1 bt421.1 bt421.2.1 bt421.2.2.1 bt421.2.2.2.1).bind fun t435 => (if t435 = true then (if bt413.2.2.2.2 = bt421.2.2.2.2 then (keystonelaw2_DescMakes.j0 k l1 y410 t429 t432 ((t429.length : Int) != (t432.length : Int))) else (keystonelaw2_DescMakes.j0 k l1 y410 t429 t432 true)) else (keystonelaw2_DescMakes.j0 k l1 y410 t429 t432 true)))))))) else (none)))) else (some false)) = some r := H
  have A3 := Aside0.mk A30
  clear A30
  by_cases c4 : t406 = true
  · subst c4
    have H1 : (if (l1.length : Int) > 100 then (some true) else ((some (([] : List (S26)) : List (S26))).bind fun y407 => (if y407.length + l1.length < 5864062014805 then ((some (y407 ++ l1 : List (S26))).bind fun y410 => ((desc_Make.f k a0 y410).bind fun bt413 => ((keystoneref2_Make.f k a0 l1).bind fun bt421 => ((desc_Classes.f y410).bind fun t429 => ((keystoneref2_Classes.f k l1).bind fun t432 => ((keystoneref2_Same.f k bt413.1 bt413.2.1 bt413.2.2.1 bt413.2.2.2.1 bt421.1 bt421.2.1 bt421.2.2.1 bt421.2.2.2.1).bind fun t435 => (if t435 = true then (if bt413.2.2.2.2 = bt421.2.2.2.2 then (keystonelaw2_DescMakes.j0 k l1 y410 t429 t432 ((t429.length : Int) != (t432.length : Int))) else (keystonelaw2_DescMakes.j0 k l1 y410 t429 t432 true)) else (keystonelaw2_DescMakes.j0 k l1 y410 t429 t432 true)))))))) else (none)))) = some r := by rw [if_pos rfl] at H; exact H
    clear H
    have H := H1
    clear H1
    by_cases c5 : (l1.length : Int) > 100
    · rw [if_pos c5] at H
      have c5b0 : decide (100 < (l1.length : Int)) = true := decide_eq_true c5
      have c5b1 : decide (100 < l1.length) = true := decide_eq_true (by omega)
      clear c5
      obtain rfl := Option.some.inj H
      go_enter Tryd.func12, Tryd.ntmps12
      go_wp2_with (first | (go_at_call 15; (with_reducible refine (keystonelaw2_known.calls k  true _ A3.out).mono ?_); rintro e w6 ⟨rfl, hb⟩; have n0_ := Aside0.mk (below_step (by repeat (first | (with_reducible first | exact HB.out | apply below_alloc | apply pw_below_drewN | apply below_drew1) | exact HB.out)) hb); clear HB; have HB := n0_; clear n0_; (try clear hb); (try clear hb2); (try clear hk); (try clear hi)))
      repeat (go_quiet (first | (go_at_call 15; (with_reducible refine (keystonelaw2_known.calls k  true _ A3.out).mono ?_); rintro e w6 ⟨rfl, hb⟩; have n0_ := Aside0.mk (below_step (by repeat (first | (with_reducible first | exact HB.out | apply below_alloc | apply pw_below_drewN | apply below_drew1) | exact HB.out)) hb); clear HB; have HB := n0_; clear n0_; (try clear hb); (try clear hb2); (try clear hk); (try clear hi))); try go_wp2_with (first | (go_at_call 15; (with_reducible refine (keystonelaw2_known.calls k  true _ A3.out).mono ?_); rintro e w6 ⟨rfl, hb⟩; have n0_ := Aside0.mk (below_step (by repeat (first | (with_reducible first | exact HB.out | apply below_alloc | apply pw_below_drewN | apply below_drew1) | exact HB.out)) hb); clear HB; have HB := n0_; clear n0_; (try clear hb); (try clear hb2); (try clear hk); (try clear hi))))
      go_ret
      exact ⟨by first | rfl | (simp [errW_none, errW_some] <;> rfl) | (simp [*, errW_none, errW_some] <;> rfl), by repeat (first | (with_reducible first | exact HB.out | apply below_alloc | apply pw_below_drewN | apply below_drew1) | exact HB.out)⟩
    · rw [if_neg c5] at H
      have c5b0 : decide (100 < (l1.length : Int)) = false := decide_eq_false c5
      have c5b1 : decide (100 < l1.length) = false := decide_eq_false (by omega)
      clear c5
      obtain ⟨y407, hy407⟩ : ∃ y_ : List (S26), y_ = (([] : List (S26))) := ⟨_, rfl⟩
      replace H : (if y407.length + l1.length < 5864062014805 then ((some (y407 ++ l1 : List (S26))).bind fun y410 => ((desc_Make.f k a0 y410).bind fun bt413 => ((keystoneref2_Make.f k a0 l1).bind fun bt421 => ((desc_Classes.f y410).bind fun t429 => ((keystoneref2_Classes.f k l1).bind fun t432 => ((keystoneref2_Same.f k bt413.1 bt413.2.1 bt413.2.2.1 bt413.2.2.2.1 bt421.1 bt421.2.1 bt421.2.2.1 bt421.2.2.2.1).bind fun t435 => (if t435 = true then (if bt413.2.2.2.2 = bt421.2.2.2.2 then (keystonelaw2_DescMakes.j0 k l1 y410 t429 t432 ((t429.length : Int) != (t432.length : Int))) else (keystonelaw2_DescMakes.j0 k l1 y410 t429 t432 true)) else (keystonelaw2_DescMakes.j0 k l1 y410 t429 t432 true)))))))) else (none)) = some r := by first | (rw [hy407]; with_reducible exact H) | (have H2_ := (Option.bind_some _ _).symm.trans H; rw [hy407]; with_reducible exact H2_) | (have H2_ := (Option.bind_some _ _).symm.trans H; with_reducible exact H2_) | with_reducible exact H | (rw [hy407]; exact H) | exact H
      have Ny407 := Aside0.mk hy407
      clear hy407
      by_cases c7 : y407.length + l1.length < 5864062014805
      · rw [if_pos c7] at H
        have LMc7 := Aside0.mk c7
        clear c7
        obtain ⟨y410, hy410⟩ : ∃ y_ : List (S26), y_ = (y407 ++ l1) := ⟨_, rfl⟩
        replace H : ((desc_Make.f k a0 y410).bind fun bt413 => ((keystoneref2_Make.f k a0 l1).bind fun bt421 => ((desc_Classes.f y410).bind fun t429 => ((keystoneref2_Classes.f k l1).bind fun t432 => ((keystoneref2_Same.f k bt413.1 bt413.2.1 bt413.2.2.1 bt413.2.2.2.1 bt421.1 bt421.2.1 bt421.2.2.1 bt421.2.2.2.1).bind fun t435 => (if t435 = true then (if bt413.2.2.2.2 = bt421.2.2.2.2 then (keystonelaw2_DescMakes.j0 k l1 y410 t429 t432 ((t429.length : Int) != (t432.length : Int))) else (keystonelaw2_DescMakes.j0 k l1 y410 t429 t432 true)) else (keystonelaw2_DescMakes.j0 k l1 y410 t429 t432 true))))))) = some r := by first | (rw [hy410]; with_reducible exact H) | (have H2_ := (Option.bind_some _ _).symm.trans H; rw [hy410]; with_reducible exact H2_) | (have H2_ := (Option.bind_some _ _).symm.trans H; with_reducible exact H2_) | with_reducible exact H | (rw [hy410]; exact H) | exact H
        have Ny410 := Aside0.mk hy410
        clear hy410
        replace H := Option.bind_eq_some_iff.mp H
        obtain ⟨⟨t413, t416, t417, t418, t419⟩, A80, H⟩ := H
        replace H : ((keystoneref2_Make.f k a0 l1).bind fun bt421 => ((desc_Classes.f y410).bind fun t429 => ((keystoneref2_Classes.f k l1).bind fun t432 => ((keystoneref2_Same.f k t413 t416 t417 t418 bt421.1 bt421.2.1 bt421.2.2.1 bt421.2.2.2.1).bind fun t435 => (if t435 = true then (if t419 = bt421.2.2.2.2 then (keystonelaw2_DescMakes.j0 k l1 y410 t429 t432 ((t429.length : Int) != (t432.length : Int))) else (keystonelaw2_DescMakes.j0 k l1 y410 t429 t432 true)) else (keystonelaw2_DescMakes.j0 k l1 y410 t429 t432 true)))))) = some r := H
        have A8 := Aside0.mk A80
        clear A80
        replace H := Option.bind_eq_some_iff.mp H
        obtain ⟨⟨t421, t424, t425, t426, t427⟩, A90, H⟩ := H
        replace H : ((desc_Classes.f y410).bind fun t429 => ((keystoneref2_Classes.f k l1).bind fun t432 => ((keystoneref2_Same.f k t413 t416 t417 t418 t421 t424 t425 t426).bind fun t435 => (if t435 = true then (if t419 = t427 then (keystonelaw2_DescMakes.j0 k l1 y410 t429 t432 ((t429.length : Int) != (t432.length : Int))) else (keystonelaw2_DescMakes.j0 k l1 y410 t429 t432 true)) else (keystonelaw2_DescMakes.j0 k l1 y410 t429 t432 true))))) = some r := H
        have A9 := Aside0.mk A90
        clear A90
        replace H := Option.bind_eq_some_iff.mp H
        obtain ⟨t429, A100, H⟩ := H
        replace H : ((keystoneref2_Classes.f k l1).bind fun t432 => ((keystoneref2_Same.f k t413 t416 t417 t418 t421 t424 t425 t426).bind fun t435 => (if t435 = true then (if t419 = t427 then (keystonelaw2_DescMakes.j0 k l1 y410 t429 t432 ((t429.length : Int) != (t432.length : Int))) else (keystonelaw2_DescMakes.j0 k l1 y410 t429 t432 true)) else (keystonelaw2_DescMakes.j0 k l1 y410 t429 t432 true)))) = some r := H
        have A10 := Aside0.mk A100
        clear A100
        replace H := Option.bind_eq_some_iff.mp H
        obtain ⟨t432, A110, H⟩ := H
        replace H : ((keystoneref2_Same.f k t413 t416 t417 t418 t421 t424 t425 t426).bind fun t435 => (if t435 = true then (if t419 = t427 then (keystonelaw2_DescMakes.j0 k l1 y410 t429 t432 ((t429.length : Int) != (t432.length : Int))) else (keystonelaw2_DescMakes.j0 k l1 y410 t429 t432 true)) else (keystonelaw2_DescMakes.j0 k l1 y410 t429 t432 true))) = some r := H
        have A11 := Aside0.mk A110
        clear A110
        have HC12 := Aside0.mk H
        clear H
        go_enter Tryd.func12, Tryd.ntmps12
        go_upto_region 10 with (first | (go_at_call 15; (with_reducible refine (keystonelaw2_known.calls k  true _ A3.out).mono ?_); rintro e w13 ⟨rfl, hb⟩; have n0_ := Aside0.mk (below_step (by repeat (first | (with_reducible first | exact HB.out | apply below_alloc | apply pw_below_drewN | apply below_drew1) | exact HB.out)) hb); clear HB; have HB := n0_; clear n0_; (try clear hb); (try clear hb2); (try clear hk); (try clear hi)) | ((with_reducible refine gate_dst (N := 19) rfl ?_); (try (refine gate_guard (by rfl) ?_; dsimp only)); refine Kd.R_lit k26 _ 26 ?hg (N := 19) ?hd (xs := ([] : List (S26))) (inner := []) (ok := fun _ => True) (okp := fun _ => True) ?hr ?hp (fun _ hk => hk) trivial (Below.refl _ _) (Nat.le_refl _) (by simp) ?_; (case hd => rfl); (case hg => rfl); (case hr => first | (go_simp; done) | (go_simp; rfl)); (case hp => exact (Reps.none _ _)); intro v408 w14 ho15 hb hg_ hnew_; clear hg_ hnew_; (first | rw [← Ny407.out] at ho15 | (simp only [Int.reduceToNat] at ho15; rw [← Ny407.out] at ho15)); have n0_ := Aside0.mk (Kd.R_lower ho15 (below_size (by repeat (first | (with_reducible first | exact HB.out | apply below_alloc | apply pw_below_drewN | apply below_drew1) | exact HB.out)))); have n1_ := Aside0.mk (below_step (by repeat (first | (with_reducible first | exact HB.out | apply below_alloc | apply pw_below_drewN | apply below_drew1) | exact HB.out)) hb); clear HB; have HO409 := n0_; have HB := n1_; clear n0_ n1_; clear hb ho15) | ((with_reducible refine gate_builtin (b := .append) (xs := #[.tmp 19, .tmp 20]) rfl ?_); (try (refine gate_guard (by rfl) ?_; dsimp only)); at_builtin; refine Kd.R_append_rows k26 (w0 := w) w.heap.size rfl (.tmp 19) (.tmp 20) 30 26 (.agg #[(.int .i64 0), (.string ⟨#[]⟩)]) 24 rfl Tryd.underlying30 info26 rfl (by decide) (by omega) v408 y407 l1 _ _ _ (fun _ => True) (fun _ => False) rfl rfl ?aO ?aR (fun _ _ h => h) (fun _ h => h.elim) ?aF ?aB ?aS ?aL ?_; (case aR => repeat (first | exact (Kd.C_below HR1.out HB.out) | (with_reducible refine Kd.C_alloc ?_ _) | (with_reducible refine Kd.C_drewN ?_ _) | (with_reducible refine Kd.C_drew ?_))); (case aB => exact (by repeat (first | (with_reducible first | exact HB.out | apply below_alloc | apply pw_below_drewN | apply below_drew1) | exact HB.out))); (case aF => exact (fun _ _ => trivial)); (case aO => exact (by (with_reducible repeat (first | apply Kd.R_alloc | apply Kd.R_drewN | apply Kd.R_drew)); exact HO409.out)); (case aS => exact (below_size (by repeat (first | (with_reducible first | exact HB.out | apply below_alloc | apply pw_below_drewN | apply below_drew1) | exact HB.out)))); (case aL => have := LMc7.out; omega); intro v411 w16 ho hb hg hat; rw [← Ny410.out] at ho; have n0_ := Aside0.mk (hb); have n1_ := Aside0.mk (ho); clear HB; clear HO409; have HB := n0_; have HO412 := n1_; clear n0_ n1_; clear ho hb hg hat; obtain ⟨Ao17, co17, eo17⟩ := Kd.R_slice HO412.out; subst eo17) | (go_at_call 42; (with_reducible refine (desc_Make.calls k a0 (fun k_ => some k_ = (.slice Ao17 y410.length co17 : Value).ownBlock) _ _ y410 t413 t416 t417 t418 t419 _ ?side1 A8.out).mono ?_); (case side1 => exact Kd.R_V (Kd.R_tight rfl (HO412.out))); rintro e w18 ⟨v414, rfl, ho0, hb⟩; have n0_ := Aside0.mk (Kd.R_elder' (by (with_reducible repeat (first | apply Kd.R_alloc | apply Kd.R_drewN | apply Kd.R_drew)); exact HO412.out) (Kd.R_base ho0) hb); have n1_ := Aside0.mk (Kd.R_lower (Kd.R_new' (Kd.R_mono (ok' := fun k_ => True) ho0 (fun _ hk_ => trivial)) (Kd.R_lt (by (with_reducible repeat (first | apply Kd.R_alloc | apply Kd.R_drewN | apply Kd.R_drew)); exact HO412.out))) (below_size (by repeat (first | (with_reducible first | exact HB.out | apply below_alloc | apply pw_below_drewN | apply below_drew1) | exact HB.out)))); have n2_ := Aside0.mk (below_step (by repeat (first | (with_reducible first | exact HB.out | apply below_alloc | apply pw_below_drewN | apply below_drew1) | exact HB.out)) hb); clear HO412; clear HB; have HO412 := n0_; have HO415 := n1_; have HB := n2_; clear n0_ n1_ n2_; (try clear hb); (try clear hb2); (try clear hk); (try clear hi); (try clear ho0)) | ((with_reducible refine gate_dst (N := 6) rfl ?_); (try (refine gate_guard (by rfl) ?_; dsimp only)); refine box_event ?hg (N := 6) ?hd (cs := #[.slice none 0 0, .bool false, .int .i64 0, .string (⟨#[]⟩ : ByteArray)]) (t := 32) ?hr ?_; (case hd => rfl); (case hg => rfl); (case hr => first | (go_simp; done) | (go_simp; rfl)); intro gb420 hg w19 hbox hb; have n0_ := Aside0.mk (Kd.R_below (by (with_reducible repeat (first | apply Kd.R_alloc | apply Kd.R_drewN | apply Kd.R_drew)); exact HO412.out) hb); have n1_ := Aside0.mk (Kd.R_below (by (with_reducible repeat (first | apply Kd.R_alloc | apply Kd.R_drewN | apply Kd.R_drew)); exact HO415.out) hb); have n2_ := Aside0.mk (below_step (by repeat (first | (with_reducible first | exact HB.out | apply below_alloc | apply pw_below_drewN | apply below_drew1) | exact HB.out)) hb); have n3_ := Aside0.mk (hbox); have n4_ := Aside0.mk ((by rw [hg]; exact (below_size (by repeat (first | (with_reducible first | exact HB.out | apply below_alloc | apply pw_below_drewN | apply below_drew1) | exact HB.out))) : w.heap.size ≤ gb420)); have n5_ := Aside0.mk ((by rw [hg]; exact (below_size (by repeat (first | (with_reducible first | exact HB.out | apply below_alloc | apply pw_below_drewN | apply below_drew1) | exact HB.out))) : w.heap.size ≤ gb420)); clear HO412; clear HO415; clear HB; have HO412 := n0_; have HO415 := n1_; have HB := n2_; have BK420 := n3_; have GW420 := n4_; have GE420 := n5_; clear n0_ n1_ n2_ n3_ n4_ n5_; clear hb hbox hg; obtain ⟨Ao20, co20, eo20⟩ := Kd.R_slice HO415.out; subst eo20; have hcz21_0 : w19.cell? ⟨gb420, 0, none⟩ = some (.slice none 0 0) := (blk_cell BK420.out 0).trans rfl; have hcz21_1 : w19.cell? ⟨gb420, 1, none⟩ = some (.bool false) := (blk_cell BK420.out 1).trans rfl; have hcz21_2 : w19.cell? ⟨gb420, 2, none⟩ = some (.int .i64 0) := (blk_cell BK420.out 2).trans rfl; have hcz21_3 : w19.cell? ⟨gb420, 3, none⟩ = some (.string (⟨#[]⟩ : ByteArray)) := (blk_cell BK420.out 3).trans rfl; have hfz21_0 := blk_frozen BK420.out 0; have hfz21_1 := blk_frozen BK420.out 1; have hfz21_2 := blk_frozen BK420.out 2; have hfz21_3 := blk_frozen BK420.out 3) | (go_at_call 43; (with_reducible refine (keystoneref2_Make.calls k a0 _ _ l1 t421 t424 t425 t426 t427 _ ?side1 ?side2 A9.out).mono ?_); (case side1 => exact Kd.C_below HR1.out (by repeat (first | (with_reducible first | exact HB.out | apply below_alloc | apply pw_below_drewN | apply below_drew1 | refine below_set ?_ GE420.out) | exact HB.out))); (case side2 => exact HC1.out); rintro e w22 ⟨v422, rfl, ho0, hb⟩; have n0_ := Aside0.mk (Kd.R_elder' (by (with_reducible repeat (first | apply Kd.R_alloc | apply Kd.R_drewN | apply Kd.R_drew)); exact (Kd.R_mono (Kd.R_far (p := ⟨gb420, 3, none⟩) (Kd.R_far (p := ⟨gb420, 2, none⟩) (Kd.R_far (p := ⟨gb420, 1, none⟩) (Kd.R_far (p := ⟨gb420, 0, none⟩) (Kd.R_types HO412.out BK420.out (by decide)) (fun _ hk => hk.2) (.slice Ao20 t413.length co20)) (fun _ hk => hk.2) (.bool t416)) (fun _ hk => hk.2) (.int .i64 t417)) (fun _ hk => hk.2) (.string t418)) (fun _ h_ => h_.1))) (Kd.R_base ho0) hb); have n1_ := Aside0.mk (Kd.R_elder' (by (with_reducible repeat (first | apply Kd.R_alloc | apply Kd.R_drewN | apply Kd.R_drew)); exact (Kd.R_mono (Kd.R_far (p := ⟨gb420, 3, none⟩) (Kd.R_far (p := ⟨gb420, 2, none⟩) (Kd.R_far (p := ⟨gb420, 1, none⟩) (Kd.R_far (p := ⟨gb420, 0, none⟩) (Kd.R_types HO415.out BK420.out (by decide)) (fun _ hk => hk.2) (.slice Ao20 t413.length co20)) (fun _ hk => hk.2) (.bool t416)) (fun _ hk => hk.2) (.int .i64 t417)) (fun _ hk => hk.2) (.string t418)) (fun _ h_ => h_.1))) (Kd.R_base ho0) hb); have n2_ := Aside0.mk (Kd.R_lower (Kd.R_new' (Kd.R_new' ho0 (Kd.R_lt (by (with_reducible repeat (first | apply Kd.R_alloc | apply Kd.R_drewN | apply Kd.R_drew)); exact (Kd.R_mono (Kd.R_far (p := ⟨gb420, 3, none⟩) (Kd.R_far (p := ⟨gb420, 2, none⟩) (Kd.R_far (p := ⟨gb420, 1, none⟩) (Kd.R_far (p := ⟨gb420, 0, none⟩) (Kd.R_types HO412.out BK420.out (by decide)) (fun _ hk => hk.2) (.slice Ao20 t413.length co20)) (fun _ hk => hk.2) (.bool t416)) (fun _ hk => hk.2) (.int .i64 t417)) (fun _ hk => hk.2) (.string t418)) (fun _ h_ => h_.1))))) (Kd.R_lt (by (with_reducible repeat (first | apply Kd.R_alloc | apply Kd.R_drewN | apply Kd.R_drew)); exact (Kd.R_mono (Kd.R_far (p := ⟨gb420, 3, none⟩) (Kd.R_far (p := ⟨gb420, 2, none⟩) (Kd.R_far (p := ⟨gb420, 1, none⟩) (Kd.R_far (p := ⟨gb420, 0, none⟩) (Kd.R_types HO415.out BK420.out (by decide)) (fun _ hk => hk.2) (.slice Ao20 t413.length co20)) (fun _ hk => hk.2) (.bool t416)) (fun _ hk => hk.2) (.int .i64 t417)) (fun _ hk => hk.2) (.string t418)) (fun _ h_ => h_.1))))) (below_size (by repeat (first | (with_reducible first | exact HB.out | apply below_alloc | apply pw_below_drewN | apply below_drew1 | refine below_set ?_ GE420.out) | exact HB.out)))); have n3_ := Aside0.mk (blk_below (g := gb420) (o := .cells #[.slice Ao20 t413.length co20, .bool t416, .int .i64 t417, .string t418] 32 (0, 0)) (by (with_reducible repeat (first | refine blk_drewN ?_ _ | refine blk_drew ?_ | refine blk_alloc ?_ _)); refine blk_put (cs := #[.slice Ao20 t413.length co20, .bool t416, .int .i64 t417, .string (⟨#[]⟩ : ByteArray)]) ?_ 3 _ rfl; (with_reducible repeat (first | refine blk_drewN ?_ _ | refine blk_drew ?_ | refine blk_alloc ?_ _)); refine blk_put (cs := #[.slice Ao20 t413.length co20, .bool t416, .int .i64 0, .string (⟨#[]⟩ : ByteArray)]) ?_ 2 _ rfl; (with_reducible repeat (first | refine blk_drewN ?_ _ | refine blk_drew ?_ | refine blk_alloc ?_ _)); refine blk_put (cs := #[.slice Ao20 t413.length co20, .bool false, .int .i64 0, .string (⟨#[]⟩ : ByteArray)]) ?_ 1 _ rfl; (with_reducible repeat (first | refine blk_drewN ?_ _ | refine blk_drew ?_ | refine blk_alloc ?_ _)); refine blk_put (cs := #[.slice none 0 0, .bool false, .int .i64 0, .string (⟨#[]⟩ : ByteArray)]) ?_ 0 _ rfl; (with_reducible repeat (first | refine blk_drewN ?_ _ | refine blk_drew ?_ | refine blk_alloc ?_ _)); exact BK420.out) hb); have n4_ := Aside0.mk (below_step (by repeat (first | (with_reducible first | exact HB.out | apply below_alloc | apply pw_below_drewN | apply below_drew1 | refine below_set ?_ GE420.out) | exact HB.out)) hb); clear HO412; clear HO415; clear BK420; clear HB; have HO412 := n0_; have HO415 := n1_; have HO423 := n2_; have BK420 := n3_; have HB := n4_; clear n0_ n1_ n2_ n3_ n4_; (try clear hb); (try clear hb2); (try clear hk); (try clear hi); (try clear ho0)) | ((with_reducible refine gate_dst (N := 8) rfl ?_); (try (refine gate_guard (by rfl) ?_; dsimp only)); refine box_event ?hg (N := 8) ?hd (cs := #[.slice none 0 0, .bool false, .int .i64 0, .string (⟨#[]⟩ : ByteArray)]) (t := 32) ?hr ?_; (case hd => rfl); (case hg => rfl); (case hr => first | (go_simp; done) | (go_simp; rfl)); intro gb428 hg w23 hbox hb; have n0_ := Aside0.mk (Kd.R_below (by (with_reducible repeat (first | apply Kd.R_alloc | apply Kd.R_drewN | apply Kd.R_drew)); exact HO412.out) hb); have n1_ := Aside0.mk (Kd.R_below (by (with_reducible repeat (first | apply Kd.R_alloc | apply Kd.R_drewN | apply Kd.R_drew)); exact HO415.out) hb); have n2_ := Aside0.mk (Kd.R_below (by (with_reducible repeat (first | apply Kd.R_alloc | apply Kd.R_drewN | apply Kd.R_drew)); exact HO423.out) hb); have n3_ := Aside0.mk (blk_below (g := gb420) (o := .cells #[.slice Ao20 t413.length co20, .bool t416, .int .i64 t417, .string t418] 32 (0, 0)) (by (with_reducible repeat (first | refine blk_drewN ?_ _ | refine blk_drew ?_ | refine blk_alloc ?_ _)); exact BK420.out) hb); have n4_ := Aside0.mk (below_step (by repeat (first | (with_reducible first | exact HB.out | apply below_alloc | apply pw_below_drewN | apply below_drew1 | refine below_set ?_ GE420.out) | exact HB.out)) hb); have n5_ := Aside0.mk (hbox); have n6_ := Aside0.mk ((by rw [hg]; exact (below_size (by repeat (first | (with_reducible first | exact HB.out | apply below_alloc | apply pw_below_drewN | apply below_drew1 | refine below_set ?_ GE420.out) | exact HB.out))) : w.heap.size ≤ gb428)); have n7_ := Aside0.mk ((by rw [hg]; exact (below_size (by repeat (first | (with_reducible first | exact HB.out | apply below_alloc | apply pw_below_drewN | apply below_drew1 | refine below_set ?_ GE420.out) | exact HB.out))) : w.heap.size ≤ gb428)); have n8_ := Aside0.mk ((by rw [hg]; exact Nat.ne_of_lt (blk_lt (g := gb420) (o := .cells #[.slice Ao20 t413.length co20, .bool t416, .int .i64 t417, .string t418] 32 (0, 0)) (by (with_reducible repeat (first | refine blk_drewN ?_ _ | refine blk_drew ?_ | refine blk_alloc ?_ _)); exact BK420.out)) : gb420 ≠ gb428)); have n9_ := Aside0.mk ((by rw [hg]; exact Nat.ne_of_gt (blk_lt (g := gb420) (o := .cells #[.slice Ao20 t413.length co20, .bool t416, .int .i64 t417, .string t418] 32 (0, 0)) (by (with_reducible repeat (first | refine blk_drewN ?_ _ | refine blk_drew ?_ | refine blk_alloc ?_ _)); exact BK420.out)) : gb428 ≠ gb420)); clear HO412; clear HO415; clear HO423; clear BK420; clear HB; have HO412 := n0_; have HO415 := n1_; have HO423 := n2_; have BK420 := n3_; have HB := n4_; have BK428 := n5_; have GW428 := n6_; have GE428 := n7_; have NB420_428 := n8_; have NB428_420 := n9_; clear n0_ n1_ n2_ n3_ n4_ n5_ n6_ n7_ n8_ n9_; clear hb hbox hg; obtain ⟨Ao24, co24, eo24⟩ := Kd.R_slice HO423.out; subst eo24; have hnb25 := NB428_420.out; have hnc25 := NB420_428.out; have hcz26_0 : w23.cell? ⟨gb428, 0, none⟩ = some (.slice none 0 0) := (blk_cell BK428.out 0).trans rfl; have hcz26_1 : w23.cell? ⟨gb428, 1, none⟩ = some (.bool false) := (blk_cell BK428.out 1).trans rfl; have hcz26_2 : w23.cell? ⟨gb428, 2, none⟩ = some (.int .i64 0) := (blk_cell BK428.out 2).trans rfl; have hcz26_3 : w23.cell? ⟨gb428, 3, none⟩ = some (.string (⟨#[]⟩ : ByteArray)) := (blk_cell BK428.out 3).trans rfl; have hfz26_0 := blk_frozen BK428.out 0; have hfz26_1 := blk_frozen BK428.out 1; have hfz26_2 := blk_frozen BK428.out 2; have hfz26_3 := blk_frozen BK428.out 3) | (go_at_call 36; (with_reducible refine (desc_Classes.calls _ _ y410 t429 _ ?side1 ?side2 A10.out).mono ?_); (case side1 => refine (Kd.R_reads' (e := 26) (base := w.heap.size) (ok := fun k_ => ((True ∧ some k_ ≠ (.slice Ao20 t413.length co20 : Value).ownBlock) ∧ some k_ ≠ (.slice Ao24 t421.length co24 : Value).ownBlock)) (n := y410.length) (c := co17) ?_).2.2; exact (by (with_reducible repeat (first | apply Kd.R_alloc | apply Kd.R_drewN | apply Kd.R_drew)); exact (Kd.R_mono (Kd.R_far (p := ⟨gb428, 3, none⟩) (Kd.R_far (p := ⟨gb428, 2, none⟩) (Kd.R_far (p := ⟨gb428, 1, none⟩) (Kd.R_far (p := ⟨gb428, 0, none⟩) (Kd.R_types HO412.out BK428.out (by decide)) (fun _ hk => hk.2) (.slice Ao24 t421.length co24)) (fun _ hk => hk.2) (.bool t424)) (fun _ hk => hk.2) (.int .i64 t425)) (fun _ hk => hk.2) (.string t426)) (fun _ h_ => h_.1)))); (case side2 => exact (Kd.R_reads' HO412.out).2.1); rintro e w27 ⟨v430, rfl, ho0, hb⟩; have n0_ := Aside0.mk (Kd.R_below (by (with_reducible repeat (first | apply Kd.R_alloc | apply Kd.R_drewN | apply Kd.R_drew)); exact (Kd.R_mono (Kd.R_far (p := ⟨gb428, 3, none⟩) (Kd.R_far (p := ⟨gb428, 2, none⟩) (Kd.R_far (p := ⟨gb428, 1, none⟩) (Kd.R_far (p := ⟨gb428, 0, none⟩) (Kd.R_types HO412.out BK428.out (by decide)) (fun _ hk => hk.2) (.slice Ao24 t421.length co24)) (fun _ hk => hk.2) (.bool t424)) (fun _ hk => hk.2) (.int .i64 t425)) (fun _ hk => hk.2) (.string t426)) (fun _ h_ => h_.1))) hb); have n1_ := Aside0.mk (Kd.R_below (by (with_reducible repeat (first | apply Kd.R_alloc | apply Kd.R_drewN | apply Kd.R_drew)); exact (Kd.R_mono (Kd.R_far (p := ⟨gb428, 3, none⟩) (Kd.R_far (p := ⟨gb428, 2, none⟩) (Kd.R_far (p := ⟨gb428, 1, none⟩) (Kd.R_far (p := ⟨gb428, 0, none⟩) (Kd.R_types HO415.out BK428.out (by decide)) (fun _ hk => hk.2) (.slice Ao24 t421.length co24)) (fun _ hk => hk.2) (.bool t424)) (fun _ hk => hk.2) (.int .i64 t425)) (fun _ hk => hk.2) (.string t426)) (fun _ h_ => h_.1))) hb); have n2_ := Aside0.mk (Kd.R_below (by (with_reducible repeat (first | apply Kd.R_alloc | apply Kd.R_drewN | apply Kd.R_drew)); exact (Kd.R_mono (Kd.R_far (p := ⟨gb428, 3, none⟩) (Kd.R_far (p := ⟨gb428, 2, none⟩) (Kd.R_far (p := ⟨gb428, 1, none⟩) (Kd.R_far (p := ⟨gb428, 0, none⟩) (Kd.R_types HO423.out BK428.out (by decide)) (fun _ hk => hk.2) (.slice Ao24 t421.length co24)) (fun _ hk => hk.2) (.bool t424)) (fun _ hk => hk.2) (.int .i64 t425)) (fun _ hk => hk.2) (.string t426)) (fun _ h_ => h_.1))) hb); have n3_ := Aside0.mk (Kd.R_lower ho0 (below_size (by repeat (first | (with_reducible first | exact HB.out | apply below_alloc | apply pw_below_drewN | apply below_drew1 | refine below_set ?_ GE420.out | refine below_set ?_ GE428.out) | exact HB.out)))); have n4_ := Aside0.mk (blk_below (g := gb420) (o := .cells #[.slice Ao20 t413.length co20, .bool t416, .int .i64 t417, .string t418] 32 (0, 0)) (by (with_reducible repeat (first | refine blk_drewN ?_ _ | refine blk_drew ?_ | refine blk_alloc ?_ _)); refine blk_far ?_ NB420_428.out _; (with_reducible repeat (first | refine blk_drewN ?_ _ | refine blk_drew ?_ | refine blk_alloc ?_ _)); refine blk_far ?_ NB420_428.out _; (with_reducible repeat (first | refine blk_drewN ?_ _ | refine blk_drew ?_ | refine blk_alloc ?_ _)); refine blk_far ?_ NB420_428.out _; (with_reducible repeat (first | refine blk_drewN ?_ _ | refine blk_drew ?_ | refine blk_alloc ?_ _)); refine blk_far ?_ NB420_428.out _; (with_reducible repeat (first | refine blk_drewN ?_ _ | refine blk_drew ?_ | refine blk_alloc ?_ _)); exact BK420.out) hb); have n5_ := Aside0.mk (blk_below (g := gb428) (o := .cells #[.slice Ao24 t421.length co24, .bool t424, .int .i64 t425, .string t426] 32 (0, 0)) (by (with_reducible repeat (first | refine blk_drewN ?_ _ | refine blk_drew ?_ | refine blk_alloc ?_ _)); refine blk_put (cs := #[.slice Ao24 t421.length co24, .bool t424, .int .i64 t425, .string (⟨#[]⟩ : ByteArray)]) ?_ 3 _ rfl; (with_reducible repeat (first | refine blk_drewN ?_ _ | refine blk_drew ?_ | refine blk_alloc ?_ _)); refine blk_put (cs := #[.slice Ao24 t421.length co24, .bool t424, .int .i64 0, .string (⟨#[]⟩ : ByteArray)]) ?_ 2 _ rfl; (with_reducible repeat (first | refine blk_drewN ?_ _ | refine blk_drew ?_ | refine blk_alloc ?_ _)); refine blk_put (cs := #[.slice Ao24 t421.length co24, .bool false, .int .i64 0, .string (⟨#[]⟩ : ByteArray)]) ?_ 1 _ rfl; (with_reducible repeat (first | refine blk_drewN ?_ _ | refine blk_drew ?_ | refine blk_alloc ?_ _)); refine blk_put (cs := #[.slice none 0 0, .bool false, .int .i64 0, .string (⟨#[]⟩ : ByteArray)]) ?_ 0 _ rfl; (with_reducible repeat (first | refine blk_drewN ?_ _ | refine blk_drew ?_ | refine blk_alloc ?_ _)); exact BK428.out) hb); have n6_ := Aside0.mk (below_step (by repeat (first | (with_reducible first | exact HB.out | apply below_alloc | apply pw_below_drewN | apply below_drew1 | refine below_set ?_ GE420.out | refine below_set ?_ GE428.out) | exact HB.out)) hb); clear HO412; clear HO415; clear HO423; clear BK420; clear BK428; clear HB; have HO412 := n0_; have HO415 := n1_; have HO423 := n2_; have HO431 := n3_; have BK420 := n4_; have BK428 := n5_; have HB := n6_; clear n0_ n1_ n2_ n3_ n4_ n5_ n6_; (try clear hb); (try clear hb2); (try clear hk); (try clear hi); (try clear ho0)) | (go_at_call 44; (with_reducible refine (keystoneref2_Classes.calls k _ _ l1 t432 _ ?side1 ?side2 A11.out).mono ?_); (case side1 => repeat (first | exact (Kd.C_below HR1.out HB.out) | (with_reducible refine Kd.C_alloc ?_ _) | (with_reducible refine Kd.C_drewN ?_ _) | (with_reducible refine Kd.C_drew ?_))); (case side2 => exact HC1.out); rintro e w28 ⟨v433, rfl, ho0, hb⟩; have n0_ := Aside0.mk (Kd.R_below (by (with_reducible repeat (first | apply Kd.R_alloc | apply Kd.R_drewN | apply Kd.R_drew)); exact HO412.out) hb); have n1_ := Aside0.mk (Kd.R_below (by (with_reducible repeat (first | apply Kd.R_alloc | apply Kd.R_drewN | apply Kd.R_drew)); exact HO415.out) hb); have n2_ := Aside0.mk (Kd.R_below (by (with_reducible repeat (first | apply Kd.R_alloc | apply Kd.R_drewN | apply Kd.R_drew)); exact HO423.out) hb); have n3_ := Aside0.mk (Kd.R_elder' (by (with_reducible repeat (first | apply Kd.R_alloc | apply Kd.R_drewN | apply Kd.R_drew)); exact HO431.out) (Kd.R_base ho0) hb); have n4_ := Aside0.mk (Kd.R_lower (Kd.R_new' ho0 (Kd.R_lt (by (with_reducible repeat (first | apply Kd.R_alloc | apply Kd.R_drewN | apply Kd.R_drew)); exact HO431.out))) (below_size (by repeat (first | (with_reducible first | exact HB.out | apply below_alloc | apply pw_below_drewN | apply below_drew1 | refine below_set ?_ GE420.out | refine below_set ?_ GE428.out) | exact HB.out)))); have n5_ := Aside0.mk (blk_below (g := gb420) (o := .cells #[.slice Ao20 t413.length co20, .bool t416, .int .i64 t417, .string t418] 32 (0, 0)) (by (with_reducible repeat (first | refine blk_drewN ?_ _ | refine blk_drew ?_ | refine blk_alloc ?_ _)); exact BK420.out) hb); have n6_ := Aside0.mk (blk_below (g := gb428) (o := .cells #[.slice Ao24 t421.length co24, .bool t424, .int .i64 t425, .string t426] 32 (0, 0)) (by (with_reducible repeat (first | refine blk_drewN ?_ _ | refine blk_drew ?_ | refine blk_alloc ?_ _)); exact BK428.out) hb); have n7_ := Aside0.mk (below_step (by repeat (first | (with_reducible first | exact HB.out | apply below_alloc | apply pw_below_drewN | apply below_drew1 | refine below_set ?_ GE420.out | refine below_set ?_ GE428.out) | exact HB.out)) hb); clear HO412; clear HO415; clear HO423; clear HO431; clear BK420; clear BK428; clear HB; have HO412 := n0_; have HO415 := n1_; have HO423 := n2_; have HO431 := n3_; have HO434 := n4_; have BK420 := n5_; have BK428 := n6_; have HB := n7_; clear n0_ n1_ n2_ n3_ n4_ n5_ n6_ n7_; (try clear hb); (try clear hb2); (try clear hk); (try clear hi); (try clear ho0)))
        repeat (go_quiet (first | (go_at_call 15; (with_reducible refine (keystonelaw2_known.calls k  true _ A3.out).mono ?_); rintro e w13 ⟨rfl, hb⟩; have n0_ := Aside0.mk (below_step (by repeat (first | (with_reducible first | exact HB.out | apply below_alloc | apply pw_below_drewN | apply below_drew1) | exact HB.out)) hb); clear HB; have HB := n0_; clear n0_; (try clear hb); (try clear hb2); (try clear hk); (try clear hi)) | ((with_reducible refine gate_dst (N := 19) rfl ?_); (try (refine gate_guard (by rfl) ?_; dsimp only)); refine Kd.R_lit k26 _ 26 ?hg (N := 19) ?hd (xs := ([] : List (S26))) (inner := []) (ok := fun _ => True) (okp := fun _ => True) ?hr ?hp (fun _ hk => hk) trivial (Below.refl _ _) (Nat.le_refl _) (by simp) ?_; (case hd => rfl); (case hg => rfl); (case hr => first | (go_simp; done) | (go_simp; rfl)); (case hp => exact (Reps.none _ _)); intro v408 w14 ho15 hb hg_ hnew_; clear hg_ hnew_; (first | rw [← Ny407.out] at ho15 | (simp only [Int.reduceToNat] at ho15; rw [← Ny407.out] at ho15)); have n0_ := Aside0.mk (Kd.R_lower ho15 (below_size (by repeat (first | (with_reducible first | exact HB.out | apply below_alloc | apply pw_below_drewN | apply below_drew1) | exact HB.out)))); have n1_ := Aside0.mk (below_step (by repeat (first | (with_reducible first | exact HB.out | apply below_alloc | apply pw_below_drewN | apply below_drew1) | exact HB.out)) hb); clear HB; have HO409 := n0_; have HB := n1_; clear n0_ n1_; clear hb ho15) | ((with_reducible refine gate_builtin (b := .append) (xs := #[.tmp 19, .tmp 20]) rfl ?_); (try (refine gate_guard (by rfl) ?_; dsimp only)); at_builtin; refine Kd.R_append_rows k26 (w0 := w) w.heap.size rfl (.tmp 19) (.tmp 20) 30 26 (.agg #[(.int .i64 0), (.string ⟨#[]⟩)]) 24 rfl Tryd.underlying30 info26 rfl (by decide) (by omega) v408 y407 l1 _ _ _ (fun _ => True) (fun _ => False) rfl rfl ?aO ?aR (fun _ _ h => h) (fun _ h => h.elim) ?aF ?aB ?aS ?aL ?_; (case aR => repeat (first | exact (Kd.C_below HR1.out HB.out) | (with_reducible refine Kd.C_alloc ?_ _) | (with_reducible refine Kd.C_drewN ?_ _) | (with_reducible refine Kd.C_drew ?_))); (case aB => exact (by repeat (first | (with_reducible first | exact HB.out | apply below_alloc | apply pw_below_drewN | apply below_drew1) | exact HB.out))); (case aF => exact (fun _ _ => trivial)); (case aO => exact (by (with_reducible repeat (first | apply Kd.R_alloc | apply Kd.R_drewN | apply Kd.R_drew)); exact HO409.out)); (case aS => exact (below_size (by repeat (first | (with_reducible first | exact HB.out | apply below_alloc | apply pw_below_drewN | apply below_drew1) | exact HB.out)))); (case aL => have := LMc7.out; omega); intro v411 w16 ho hb hg hat; rw [← Ny410.out] at ho; have n0_ := Aside0.mk (hb); have n1_ := Aside0.mk (ho); clear HB; clear HO409; have HB := n0_; have HO412 := n1_; clear n0_ n1_; clear ho hb hg hat; obtain ⟨Ao17, co17, eo17⟩ := Kd.R_slice HO412.out; subst eo17) | (go_at_call 42; (with_reducible refine (desc_Make.calls k a0 (fun k_ => some k_ = (.slice Ao17 y410.length co17 : Value).ownBlock) _ _ y410 t413 t416 t417 t418 t419 _ ?side1 A8.out).mono ?_); (case side1 => exact Kd.R_V (Kd.R_tight rfl (HO412.out))); rintro e w18 ⟨v414, rfl, ho0, hb⟩; have n0_ := Aside0.mk (Kd.R_elder' (by (with_reducible repeat (first | apply Kd.R_alloc | apply Kd.R_drewN | apply Kd.R_drew)); exact HO412.out) (Kd.R_base ho0) hb); have n1_ := Aside0.mk (Kd.R_lower (Kd.R_new' (Kd.R_mono (ok' := fun k_ => True) ho0 (fun _ hk_ => trivial)) (Kd.R_lt (by (with_reducible repeat (first | apply Kd.R_alloc | apply Kd.R_drewN | apply Kd.R_drew)); exact HO412.out))) (below_size (by repeat (first | (with_reducible first | exact HB.out | apply below_alloc | apply pw_below_drewN | apply below_drew1) | exact HB.out)))); have n2_ := Aside0.mk (below_step (by repeat (first | (with_reducible first | exact HB.out | apply below_alloc | apply pw_below_drewN | apply below_drew1) | exact HB.out)) hb); clear HO412; clear HB; have HO412 := n0_; have HO415 := n1_; have HB := n2_; clear n0_ n1_ n2_; (try clear hb); (try clear hb2); (try clear hk); (try clear hi); (try clear ho0)) | ((with_reducible refine gate_dst (N := 6) rfl ?_); (try (refine gate_guard (by rfl) ?_; dsimp only)); refine box_event ?hg (N := 6) ?hd (cs := #[.slice none 0 0, .bool false, .int .i64 0, .string (⟨#[]⟩ : ByteArray)]) (t := 32) ?hr ?_; (case hd => rfl); (case hg => rfl); (case hr => first | (go_simp; done) | (go_simp; rfl)); intro gb420 hg w19 hbox hb; have n0_ := Aside0.mk (Kd.R_below (by (with_reducible repeat (first | apply Kd.R_alloc | apply Kd.R_drewN | apply Kd.R_drew)); exact HO412.out) hb); have n1_ := Aside0.mk (Kd.R_below (by (with_reducible repeat (first | apply Kd.R_alloc | apply Kd.R_drewN | apply Kd.R_drew)); exact HO415.out) hb); have n2_ := Aside0.mk (below_step (by repeat (first | (with_reducible first | exact HB.out | apply below_alloc | apply pw_below_drewN | apply below_drew1) | exact HB.out)) hb); have n3_ := Aside0.mk (hbox); have n4_ := Aside0.mk ((by rw [hg]; exact (below_size (by repeat (first | (with_reducible first | exact HB.out | apply below_alloc | apply pw_below_drewN | apply below_drew1) | exact HB.out))) : w.heap.size ≤ gb420)); have n5_ := Aside0.mk ((by rw [hg]; exact (below_size (by repeat (first | (with_reducible first | exact HB.out | apply below_alloc | apply pw_below_drewN | apply below_drew1) | exact HB.out))) : w.heap.size ≤ gb420)); clear HO412; clear HO415; clear HB; have HO412 := n0_; have HO415 := n1_; have HB := n2_; have BK420 := n3_; have GW420 := n4_; have GE420 := n5_; clear n0_ n1_ n2_ n3_ n4_ n5_; clear hb hbox hg; obtain ⟨Ao20, co20, eo20⟩ := Kd.R_slice HO415.out; subst eo20; have hcz21_0 : w19.cell? ⟨gb420, 0, none⟩ = some (.slice none 0 0) := (blk_cell BK420.out 0).trans rfl; have hcz21_1 : w19.cell? ⟨gb420, 1, none⟩ = some (.bool false) := (blk_cell BK420.out 1).trans rfl; have hcz21_2 : w19.cell? ⟨gb420, 2, none⟩ = some (.int .i64 0) := (blk_cell BK420.out 2).trans rfl; have hcz21_3 : w19.cell? ⟨gb420, 3, none⟩ = some (.string (⟨#[]⟩ : ByteArray)) := (blk_cell BK420.out 3).trans rfl; have hfz21_0 := blk_frozen BK420.out 0; have hfz21_1 := blk_frozen BK420.out 1; have hfz21_2 := blk_frozen BK420.out 2; have hfz21_3 := blk_frozen BK420.out 3) | (go_at_call 43; (with_reducible refine (keystoneref2_Make.calls k a0 _ _ l1 t421 t424 t425 t426 t427 _ ?side1 ?side2 A9.out).mono ?_); (case side1 => exact Kd.C_below HR1.out (by repeat (first | (with_reducible first | exact HB.out | apply below_alloc | apply pw_below_drewN | apply below_drew1 | refine below_set ?_ GE420.out) | exact HB.out))); (case side2 => exact HC1.out); rintro e w22 ⟨v422, rfl, ho0, hb⟩; have n0_ := Aside0.mk (Kd.R_elder' (by (with_reducible repeat (first | apply Kd.R_alloc | apply Kd.R_drewN | apply Kd.R_drew)); exact (Kd.R_mono (Kd.R_far (p := ⟨gb420, 3, none⟩) (Kd.R_far (p := ⟨gb420, 2, none⟩) (Kd.R_far (p := ⟨gb420, 1, none⟩) (Kd.R_far (p := ⟨gb420, 0, none⟩) (Kd.R_types HO412.out BK420.out (by decide)) (fun _ hk => hk.2) (.slice Ao20 t413.length co20)) (fun _ hk => hk.2) (.bool t416)) (fun _ hk => hk.2) (.int .i64 t417)) (fun _ hk => hk.2) (.string t418)) (fun _ h_ => h_.1))) (Kd.R_base ho0) hb); have n1_ := Aside0.mk (Kd.R_elder' (by (with_reducible repeat (first | apply Kd.R_alloc | apply Kd.R_drewN | apply Kd.R_drew)); exact (Kd.R_mono (Kd.R_far (p := ⟨gb420, 3, none⟩) (Kd.R_far (p := ⟨gb420, 2, none⟩) (Kd.R_far (p := ⟨gb420, 1, none⟩) (Kd.R_far (p := ⟨gb420, 0, none⟩) (Kd.R_types HO415.out BK420.out (by decide)) (fun _ hk => hk.2) (.slice Ao20 t413.length co20)) (fun _ hk => hk.2) (.bool t416)) (fun _ hk => hk.2) (.int .i64 t417)) (fun _ hk => hk.2) (.string t418)) (fun _ h_ => h_.1))) (Kd.R_base ho0) hb); have n2_ := Aside0.mk (Kd.R_lower (Kd.R_new' (Kd.R_new' ho0 (Kd.R_lt (by (with_reducible repeat (first | apply Kd.R_alloc | apply Kd.R_drewN | apply Kd.R_drew)); exact (Kd.R_mono (Kd.R_far (p := ⟨gb420, 3, none⟩) (Kd.R_far (p := ⟨gb420, 2, none⟩) (Kd.R_far (p := ⟨gb420, 1, none⟩) (Kd.R_far (p := ⟨gb420, 0, none⟩) (Kd.R_types HO412.out BK420.out (by decide)) (fun _ hk => hk.2) (.slice Ao20 t413.length co20)) (fun _ hk => hk.2) (.bool t416)) (fun _ hk => hk.2) (.int .i64 t417)) (fun _ hk => hk.2) (.string t418)) (fun _ h_ => h_.1))))) (Kd.R_lt (by (with_reducible repeat (first | apply Kd.R_alloc | apply Kd.R_drewN | apply Kd.R_drew)); exact (Kd.R_mono (Kd.R_far (p := ⟨gb420, 3, none⟩) (Kd.R_far (p := ⟨gb420, 2, none⟩) (Kd.R_far (p := ⟨gb420, 1, none⟩) (Kd.R_far (p := ⟨gb420, 0, none⟩) (Kd.R_types HO415.out BK420.out (by decide)) (fun _ hk => hk.2) (.slice Ao20 t413.length co20)) (fun _ hk => hk.2) (.bool t416)) (fun _ hk => hk.2) (.int .i64 t417)) (fun _ hk => hk.2) (.string t418)) (fun _ h_ => h_.1))))) (below_size (by repeat (first | (with_reducible first | exact HB.out | apply below_alloc | apply pw_below_drewN | apply below_drew1 | refine below_set ?_ GE420.out) | exact HB.out)))); have n3_ := Aside0.mk (blk_below (g := gb420) (o := .cells #[.slice Ao20 t413.length co20, .bool t416, .int .i64 t417, .string t418] 32 (0, 0)) (by (with_reducible repeat (first | refine blk_drewN ?_ _ | refine blk_drew ?_ | refine blk_alloc ?_ _)); refine blk_put (cs := #[.slice Ao20 t413.length co20, .bool t416, .int .i64 t417, .string (⟨#[]⟩ : ByteArray)]) ?_ 3 _ rfl; (with_reducible repeat (first | refine blk_drewN ?_ _ | refine blk_drew ?_ | refine blk_alloc ?_ _)); refine blk_put (cs := #[.slice Ao20 t413.length co20, .bool t416, .int .i64 0, .string (⟨#[]⟩ : ByteArray)]) ?_ 2 _ rfl; (with_reducible repeat (first | refine blk_drewN ?_ _ | refine blk_drew ?_ | refine blk_alloc ?_ _)); refine blk_put (cs := #[.slice Ao20 t413.length co20, .bool false, .int .i64 0, .string (⟨#[]⟩ : ByteArray)]) ?_ 1 _ rfl; (with_reducible repeat (first | refine blk_drewN ?_ _ | refine blk_drew ?_ | refine blk_alloc ?_ _)); refine blk_put (cs := #[.slice none 0 0, .bool false, .int .i64 0, .string (⟨#[]⟩ : ByteArray)]) ?_ 0 _ rfl; (with_reducible repeat (first | refine blk_drewN ?_ _ | refine blk_drew ?_ | refine blk_alloc ?_ _)); exact BK420.out) hb); have n4_ := Aside0.mk (below_step (by repeat (first | (with_reducible first | exact HB.out | apply below_alloc | apply pw_below_drewN | apply below_drew1 | refine below_set ?_ GE420.out) | exact HB.out)) hb); clear HO412; clear HO415; clear BK420; clear HB; have HO412 := n0_; have HO415 := n1_; have HO423 := n2_; have BK420 := n3_; have HB := n4_; clear n0_ n1_ n2_ n3_ n4_; (try clear hb); (try clear hb2); (try clear hk); (try clear hi); (try clear ho0)) | ((with_reducible refine gate_dst (N := 8) rfl ?_); (try (refine gate_guard (by rfl) ?_; dsimp only)); refine box_event ?hg (N := 8) ?hd (cs := #[.slice none 0 0, .bool false, .int .i64 0, .string (⟨#[]⟩ : ByteArray)]) (t := 32) ?hr ?_; (case hd => rfl); (case hg => rfl); (case hr => first | (go_simp; done) | (go_simp; rfl)); intro gb428 hg w23 hbox hb; have n0_ := Aside0.mk (Kd.R_below (by (with_reducible repeat (first | apply Kd.R_alloc | apply Kd.R_drewN | apply Kd.R_drew)); exact HO412.out) hb); have n1_ := Aside0.mk (Kd.R_below (by (with_reducible repeat (first | apply Kd.R_alloc | apply Kd.R_drewN | apply Kd.R_drew)); exact HO415.out) hb); have n2_ := Aside0.mk (Kd.R_below (by (with_reducible repeat (first | apply Kd.R_alloc | apply Kd.R_drewN | apply Kd.R_drew)); exact HO423.out) hb); have n3_ := Aside0.mk (blk_below (g := gb420) (o := .cells #[.slice Ao20 t413.length co20, .bool t416, .int .i64 t417, .string t418] 32 (0, 0)) (by (with_reducible repeat (first | refine blk_drewN ?_ _ | refine blk_drew ?_ | refine blk_alloc ?_ _)); exact BK420.out) hb); have n4_ := Aside0.mk (below_step (by repeat (first | (with_reducible first | exact HB.out | apply below_alloc | apply pw_below_drewN | apply below_drew1 | refine below_set ?_ GE420.out) | exact HB.out)) hb); have n5_ := Aside0.mk (hbox); have n6_ := Aside0.mk ((by rw [hg]; exact (below_size (by repeat (first | (with_reducible first | exact HB.out | apply below_alloc | apply pw_below_drewN | apply below_drew1 | refine below_set ?_ GE420.out) | exact HB.out))) : w.heap.size ≤ gb428)); have n7_ := Aside0.mk ((by rw [hg]; exact (below_size (by repeat (first | (with_reducible first | exact HB.out | apply below_alloc | apply pw_below_drewN | apply below_drew1 | refine below_set ?_ GE420.out) | exact HB.out))) : w.heap.size ≤ gb428)); have n8_ := Aside0.mk ((by rw [hg]; exact Nat.ne_of_lt (blk_lt (g := gb420) (o := .cells #[.slice Ao20 t413.length co20, .bool t416, .int .i64 t417, .string t418] 32 (0, 0)) (by (with_reducible repeat (first | refine blk_drewN ?_ _ | refine blk_drew ?_ | refine blk_alloc ?_ _)); exact BK420.out)) : gb420 ≠ gb428)); have n9_ := Aside0.mk ((by rw [hg]; exact Nat.ne_of_gt (blk_lt (g := gb420) (o := .cells #[.slice Ao20 t413.length co20, .bool t416, .int .i64 t417, .string t418] 32 (0, 0)) (by (with_reducible repeat (first | refine blk_drewN ?_ _ | refine blk_drew ?_ | refine blk_alloc ?_ _)); exact BK420.out)) : gb428 ≠ gb420)); clear HO412; clear HO415; clear HO423; clear BK420; clear HB; have HO412 := n0_; have HO415 := n1_; have HO423 := n2_; have BK420 := n3_; have HB := n4_; have BK428 := n5_; have GW428 := n6_; have GE428 := n7_; have NB420_428 := n8_; have NB428_420 := n9_; clear n0_ n1_ n2_ n3_ n4_ n5_ n6_ n7_ n8_ n9_; clear hb hbox hg; obtain ⟨Ao24, co24, eo24⟩ := Kd.R_slice HO423.out; subst eo24; have hnb25 := NB428_420.out; have hnc25 := NB420_428.out; have hcz26_0 : w23.cell? ⟨gb428, 0, none⟩ = some (.slice none 0 0) := (blk_cell BK428.out 0).trans rfl; have hcz26_1 : w23.cell? ⟨gb428, 1, none⟩ = some (.bool false) := (blk_cell BK428.out 1).trans rfl; have hcz26_2 : w23.cell? ⟨gb428, 2, none⟩ = some (.int .i64 0) := (blk_cell BK428.out 2).trans rfl; have hcz26_3 : w23.cell? ⟨gb428, 3, none⟩ = some (.string (⟨#[]⟩ : ByteArray)) := (blk_cell BK428.out 3).trans rfl; have hfz26_0 := blk_frozen BK428.out 0; have hfz26_1 := blk_frozen BK428.out 1; have hfz26_2 := blk_frozen BK428.out 2; have hfz26_3 := blk_frozen BK428.out 3) | (go_at_call 36; (with_reducible refine (desc_Classes.calls _ _ y410 t429 _ ?side1 ?side2 A10.out).mono ?_); (case side1 => refine (Kd.R_reads' (e := 26) (base := w.heap.size) (ok := fun k_ => ((True ∧ some k_ ≠ (.slice Ao20 t413.length co20 : Value).ownBlock) ∧ some k_ ≠ (.slice Ao24 t421.length co24 : Value).ownBlock)) (n := y410.length) (c := co17) ?_).2.2; exact (by (with_reducible repeat (first | apply Kd.R_alloc | apply Kd.R_drewN | apply Kd.R_drew)); exact (Kd.R_mono (Kd.R_far (p := ⟨gb428, 3, none⟩) (Kd.R_far (p := ⟨gb428, 2, none⟩) (Kd.R_far (p := ⟨gb428, 1, none⟩) (Kd.R_far (p := ⟨gb428, 0, none⟩) (Kd.R_types HO412.out BK428.out (by decide)) (fun _ hk => hk.2) (.slice Ao24 t421.length co24)) (fun _ hk => hk.2) (.bool t424)) (fun _ hk => hk.2) (.int .i64 t425)) (fun _ hk => hk.2) (.string t426)) (fun _ h_ => h_.1)))); (case side2 => exact (Kd.R_reads' HO412.out).2.1); rintro e w27 ⟨v430, rfl, ho0, hb⟩; have n0_ := Aside0.mk (Kd.R_below (by (with_reducible repeat (first | apply Kd.R_alloc | apply Kd.R_drewN | apply Kd.R_drew)); exact (Kd.R_mono (Kd.R_far (p := ⟨gb428, 3, none⟩) (Kd.R_far (p := ⟨gb428, 2, none⟩) (Kd.R_far (p := ⟨gb428, 1, none⟩) (Kd.R_far (p := ⟨gb428, 0, none⟩) (Kd.R_types HO412.out BK428.out (by decide)) (fun _ hk => hk.2) (.slice Ao24 t421.length co24)) (fun _ hk => hk.2) (.bool t424)) (fun _ hk => hk.2) (.int .i64 t425)) (fun _ hk => hk.2) (.string t426)) (fun _ h_ => h_.1))) hb); have n1_ := Aside0.mk (Kd.R_below (by (with_reducible repeat (first | apply Kd.R_alloc | apply Kd.R_drewN | apply Kd.R_drew)); exact (Kd.R_mono (Kd.R_far (p := ⟨gb428, 3, none⟩) (Kd.R_far (p := ⟨gb428, 2, none⟩) (Kd.R_far (p := ⟨gb428, 1, none⟩) (Kd.R_far (p := ⟨gb428, 0, none⟩) (Kd.R_types HO415.out BK428.out (by decide)) (fun _ hk => hk.2) (.slice Ao24 t421.length co24)) (fun _ hk => hk.2) (.bool t424)) (fun _ hk => hk.2) (.int .i64 t425)) (fun _ hk => hk.2) (.string t426)) (fun _ h_ => h_.1))) hb); have n2_ := Aside0.mk (Kd.R_below (by (with_reducible repeat (first | apply Kd.R_alloc | apply Kd.R_drewN | apply Kd.R_drew)); exact (Kd.R_mono (Kd.R_far (p := ⟨gb428, 3, none⟩) (Kd.R_far (p := ⟨gb428, 2, none⟩) (Kd.R_far (p := ⟨gb428, 1, none⟩) (Kd.R_far (p := ⟨gb428, 0, none⟩) (Kd.R_types HO423.out BK428.out (by decide)) (fun _ hk => hk.2) (.slice Ao24 t421.length co24)) (fun _ hk => hk.2) (.bool t424)) (fun _ hk => hk.2) (.int .i64 t425)) (fun _ hk => hk.2) (.string t426)) (fun _ h_ => h_.1))) hb); have n3_ := Aside0.mk (Kd.R_lower ho0 (below_size (by repeat (first | (with_reducible first | exact HB.out | apply below_alloc | apply pw_below_drewN | apply below_drew1 | refine below_set ?_ GE420.out | refine below_set ?_ GE428.out) | exact HB.out)))); have n4_ := Aside0.mk (blk_below (g := gb420) (o := .cells #[.slice Ao20 t413.length co20, .bool t416, .int .i64 t417, .string t418] 32 (0, 0)) (by (with_reducible repeat (first | refine blk_drewN ?_ _ | refine blk_drew ?_ | refine blk_alloc ?_ _)); refine blk_far ?_ NB420_428.out _; (with_reducible repeat (first | refine blk_drewN ?_ _ | refine blk_drew ?_ | refine blk_alloc ?_ _)); refine blk_far ?_ NB420_428.out _; (with_reducible repeat (first | refine blk_drewN ?_ _ | refine blk_drew ?_ | refine blk_alloc ?_ _)); refine blk_far ?_ NB420_428.out _; (with_reducible repeat (first | refine blk_drewN ?_ _ | refine blk_drew ?_ | refine blk_alloc ?_ _)); refine blk_far ?_ NB420_428.out _; (with_reducible repeat (first | refine blk_drewN ?_ _ | refine blk_drew ?_ | refine blk_alloc ?_ _)); exact BK420.out) hb); have n5_ := Aside0.mk (blk_below (g := gb428) (o := .cells #[.slice Ao24 t421.length co24, .bool t424, .int .i64 t425, .string t426] 32 (0, 0)) (by (with_reducible repeat (first | refine blk_drewN ?_ _ | refine blk_drew ?_ | refine blk_alloc ?_ _)); refine blk_put (cs := #[.slice Ao24 t421.length co24, .bool t424, .int .i64 t425, .string (⟨#[]⟩ : ByteArray)]) ?_ 3 _ rfl; (with_reducible repeat (first | refine blk_drewN ?_ _ | refine blk_drew ?_ | refine blk_alloc ?_ _)); refine blk_put (cs := #[.slice Ao24 t421.length co24, .bool t424, .int .i64 0, .string (⟨#[]⟩ : ByteArray)]) ?_ 2 _ rfl; (with_reducible repeat (first | refine blk_drewN ?_ _ | refine blk_drew ?_ | refine blk_alloc ?_ _)); refine blk_put (cs := #[.slice Ao24 t421.length co24, .bool false, .int .i64 0, .string (⟨#[]⟩ : ByteArray)]) ?_ 1 _ rfl; (with_reducible repeat (first | refine blk_drewN ?_ _ | refine blk_drew ?_ | refine blk_alloc ?_ _)); refine blk_put (cs := #[.slice none 0 0, .bool false, .int .i64 0, .string (⟨#[]⟩ : ByteArray)]) ?_ 0 _ rfl; (with_reducible repeat (first | refine blk_drewN ?_ _ | refine blk_drew ?_ | refine blk_alloc ?_ _)); exact BK428.out) hb); have n6_ := Aside0.mk (below_step (by repeat (first | (with_reducible first | exact HB.out | apply below_alloc | apply pw_below_drewN | apply below_drew1 | refine below_set ?_ GE420.out | refine below_set ?_ GE428.out) | exact HB.out)) hb); clear HO412; clear HO415; clear HO423; clear BK420; clear BK428; clear HB; have HO412 := n0_; have HO415 := n1_; have HO423 := n2_; have HO431 := n3_; have BK420 := n4_; have BK428 := n5_; have HB := n6_; clear n0_ n1_ n2_ n3_ n4_ n5_ n6_; (try clear hb); (try clear hb2); (try clear hk); (try clear hi); (try clear ho0)) | (go_at_call 44; (with_reducible refine (keystoneref2_Classes.calls k _ _ l1 t432 _ ?side1 ?side2 A11.out).mono ?_); (case side1 => repeat (first | exact (Kd.C_below HR1.out HB.out) | (with_reducible refine Kd.C_alloc ?_ _) | (with_reducible refine Kd.C_drewN ?_ _) | (with_reducible refine Kd.C_drew ?_))); (case side2 => exact HC1.out); rintro e w28 ⟨v433, rfl, ho0, hb⟩; have n0_ := Aside0.mk (Kd.R_below (by (with_reducible repeat (first | apply Kd.R_alloc | apply Kd.R_drewN | apply Kd.R_drew)); exact HO412.out) hb); have n1_ := Aside0.mk (Kd.R_below (by (with_reducible repeat (first | apply Kd.R_alloc | apply Kd.R_drewN | apply Kd.R_drew)); exact HO415.out) hb); have n2_ := Aside0.mk (Kd.R_below (by (with_reducible repeat (first | apply Kd.R_alloc | apply Kd.R_drewN | apply Kd.R_drew)); exact HO423.out) hb); have n3_ := Aside0.mk (Kd.R_elder' (by (with_reducible repeat (first | apply Kd.R_alloc | apply Kd.R_drewN | apply Kd.R_drew)); exact HO431.out) (Kd.R_base ho0) hb); have n4_ := Aside0.mk (Kd.R_lower (Kd.R_new' ho0 (Kd.R_lt (by (with_reducible repeat (first | apply Kd.R_alloc | apply Kd.R_drewN | apply Kd.R_drew)); exact HO431.out))) (below_size (by repeat (first | (with_reducible first | exact HB.out | apply below_alloc | apply pw_below_drewN | apply below_drew1 | refine below_set ?_ GE420.out | refine below_set ?_ GE428.out) | exact HB.out)))); have n5_ := Aside0.mk (blk_below (g := gb420) (o := .cells #[.slice Ao20 t413.length co20, .bool t416, .int .i64 t417, .string t418] 32 (0, 0)) (by (with_reducible repeat (first | refine blk_drewN ?_ _ | refine blk_drew ?_ | refine blk_alloc ?_ _)); exact BK420.out) hb); have n6_ := Aside0.mk (blk_below (g := gb428) (o := .cells #[.slice Ao24 t421.length co24, .bool t424, .int .i64 t425, .string t426] 32 (0, 0)) (by (with_reducible repeat (first | refine blk_drewN ?_ _ | refine blk_drew ?_ | refine blk_alloc ?_ _)); exact BK428.out) hb); have n7_ := Aside0.mk (below_step (by repeat (first | (with_reducible first | exact HB.out | apply below_alloc | apply pw_below_drewN | apply below_drew1 | refine below_set ?_ GE420.out | refine below_set ?_ GE428.out) | exact HB.out)) hb); clear HO412; clear HO415; clear HO423; clear HO431; clear BK420; clear BK428; clear HB; have HO412 := n0_; have HO415 := n1_; have HO423 := n2_; have HO431 := n3_; have HO434 := n4_; have BK420 := n5_; have BK428 := n6_; have HB := n7_; clear n0_ n1_ n2_ n3_ n4_ n5_ n6_ n7_; (try clear hb); (try clear hb2); (try clear hk); (try clear hi); (try clear ho0))); go_upto_region 10 with (first | (go_at_call 15; (with_reducible refine (keystonelaw2_known.calls k  true _ A3.out).mono ?_); rintro e w13 ⟨rfl, hb⟩; have n0_ := Aside0.mk (below_step (by repeat (first | (with_reducible first | exact HB.out | apply below_alloc | apply pw_below_drewN | apply below_drew1) | exact HB.out)) hb); clear HB; have HB := n0_; clear n0_; (try clear hb); (try clear hb2); (try clear hk); (try clear hi)) | ((with_reducible refine gate_dst (N := 19) rfl ?_); (try (refine gate_guard (by rfl) ?_; dsimp only)); refine Kd.R_lit k26 _ 26 ?hg (N := 19) ?hd (xs := ([] : List (S26))) (inner := []) (ok := fun _ => True) (okp := fun _ => True) ?hr ?hp (fun _ hk => hk) trivial (Below.refl _ _) (Nat.le_refl _) (by simp) ?_; (case hd => rfl); (case hg => rfl); (case hr => first | (go_simp; done) | (go_simp; rfl)); (case hp => exact (Reps.none _ _)); intro v408 w14 ho15 hb hg_ hnew_; clear hg_ hnew_; (first | rw [← Ny407.out] at ho15 | (simp only [Int.reduceToNat] at ho15; rw [← Ny407.out] at ho15)); have n0_ := Aside0.mk (Kd.R_lower ho15 (below_size (by repeat (first | (with_reducible first | exact HB.out | apply below_alloc | apply pw_below_drewN | apply below_drew1) | exact HB.out)))); have n1_ := Aside0.mk (below_step (by repeat (first | (with_reducible first | exact HB.out | apply below_alloc | apply pw_below_drewN | apply below_drew1) | exact HB.out)) hb); clear HB; have HO409 := n0_; have HB := n1_; clear n0_ n1_; clear hb ho15) | ((with_reducible refine gate_builtin (b := .append) (xs := #[.tmp 19, .tmp 20]) rfl ?_); (try (refine gate_guard (by rfl) ?_; dsimp only)); at_builtin; refine Kd.R_append_rows k26 (w0 := w) w.heap.size rfl (.tmp 19) (.tmp 20) 30 26 (.agg #[(.int .i64 0), (.string ⟨#[]⟩)]) 24 rfl Tryd.underlying30 info26 rfl (by decide) (by omega) v408 y407 l1 _ _ _ (fun _ => True) (fun _ => False) rfl rfl ?aO ?aR (fun _ _ h => h) (fun _ h => h.elim) ?aF ?aB ?aS ?aL ?_; (case aR => repeat (first | exact (Kd.C_below HR1.out HB.out) | (with_reducible refine Kd.C_alloc ?_ _) | (with_reducible refine Kd.C_drewN ?_ _) | (with_reducible refine Kd.C_drew ?_))); (case aB => exact (by repeat (first | (with_reducible first | exact HB.out | apply below_alloc | apply pw_below_drewN | apply below_drew1) | exact HB.out))); (case aF => exact (fun _ _ => trivial)); (case aO => exact (by (with_reducible repeat (first | apply Kd.R_alloc | apply Kd.R_drewN | apply Kd.R_drew)); exact HO409.out)); (case aS => exact (below_size (by repeat (first | (with_reducible first | exact HB.out | apply below_alloc | apply pw_below_drewN | apply below_drew1) | exact HB.out)))); (case aL => have := LMc7.out; omega); intro v411 w16 ho hb hg hat; rw [← Ny410.out] at ho; have n0_ := Aside0.mk (hb); have n1_ := Aside0.mk (ho); clear HB; clear HO409; have HB := n0_; have HO412 := n1_; clear n0_ n1_; clear ho hb hg hat; obtain ⟨Ao17, co17, eo17⟩ := Kd.R_slice HO412.out; subst eo17) | (go_at_call 42; (with_reducible refine (desc_Make.calls k a0 (fun k_ => some k_ = (.slice Ao17 y410.length co17 : Value).ownBlock) _ _ y410 t413 t416 t417 t418 t419 _ ?side1 A8.out).mono ?_); (case side1 => exact Kd.R_V (Kd.R_tight rfl (HO412.out))); rintro e w18 ⟨v414, rfl, ho0, hb⟩; have n0_ := Aside0.mk (Kd.R_elder' (by (with_reducible repeat (first | apply Kd.R_alloc | apply Kd.R_drewN | apply Kd.R_drew)); exact HO412.out) (Kd.R_base ho0) hb); have n1_ := Aside0.mk (Kd.R_lower (Kd.R_new' (Kd.R_mono (ok' := fun k_ => True) ho0 (fun _ hk_ => trivial)) (Kd.R_lt (by (with_reducible repeat (first | apply Kd.R_alloc | apply Kd.R_drewN | apply Kd.R_drew)); exact HO412.out))) (below_size (by repeat (first | (with_reducible first | exact HB.out | apply below_alloc | apply pw_below_drewN | apply below_drew1) | exact HB.out)))); have n2_ := Aside0.mk (below_step (by repeat (first | (with_reducible first | exact HB.out | apply below_alloc | apply pw_below_drewN | apply below_drew1) | exact HB.out)) hb); clear HO412; clear HB; have HO412 := n0_; have HO415 := n1_; have HB := n2_; clear n0_ n1_ n2_; (try clear hb); (try clear hb2); (try clear hk); (try clear hi); (try clear ho0)) | ((with_reducible refine gate_dst (N := 6) rfl ?_); (try (refine gate_guard (by rfl) ?_; dsimp only)); refine box_event ?hg (N := 6) ?hd (cs := #[.slice none 0 0, .bool false, .int .i64 0, .string (⟨#[]⟩ : ByteArray)]) (t := 32) ?hr ?_; (case hd => rfl); (case hg => rfl); (case hr => first | (go_simp; done) | (go_simp; rfl)); intro gb420 hg w19 hbox hb; have n0_ := Aside0.mk (Kd.R_below (by (with_reducible repeat (first | apply Kd.R_alloc | apply Kd.R_drewN | apply Kd.R_drew)); exact HO412.out) hb); have n1_ := Aside0.mk (Kd.R_below (by (with_reducible repeat (first | apply Kd.R_alloc | apply Kd.R_drewN | apply Kd.R_drew)); exact HO415.out) hb); have n2_ := Aside0.mk (below_step (by repeat (first | (with_reducible first | exact HB.out | apply below_alloc | apply pw_below_drewN | apply below_drew1) | exact HB.out)) hb); have n3_ := Aside0.mk (hbox); have n4_ := Aside0.mk ((by rw [hg]; exact (below_size (by repeat (first | (with_reducible first | exact HB.out | apply below_alloc | apply pw_below_drewN | apply below_drew1) | exact HB.out))) : w.heap.size ≤ gb420)); have n5_ := Aside0.mk ((by rw [hg]; exact (below_size (by repeat (first | (with_reducible first | exact HB.out | apply below_alloc | apply pw_below_drewN | apply below_drew1) | exact HB.out))) : w.heap.size ≤ gb420)); clear HO412; clear HO415; clear HB; have HO412 := n0_; have HO415 := n1_; have HB := n2_; have BK420 := n3_; have GW420 := n4_; have GE420 := n5_; clear n0_ n1_ n2_ n3_ n4_ n5_; clear hb hbox hg; obtain ⟨Ao20, co20, eo20⟩ := Kd.R_slice HO415.out; subst eo20; have hcz21_0 : w19.cell? ⟨gb420, 0, none⟩ = some (.slice none 0 0) := (blk_cell BK420.out 0).trans rfl; have hcz21_1 : w19.cell? ⟨gb420, 1, none⟩ = some (.bool false) := (blk_cell BK420.out 1).trans rfl; have hcz21_2 : w19.cell? ⟨gb420, 2, none⟩ = some (.int .i64 0) := (blk_cell BK420.out 2).trans rfl; have hcz21_3 : w19.cell? ⟨gb420, 3, none⟩ = some (.string (⟨#[]⟩ : ByteArray)) := (blk_cell BK420.out 3).trans rfl; have hfz21_0 := blk_frozen BK420.out 0; have hfz21_1 := blk_frozen BK420.out 1; have hfz21_2 := blk_frozen BK420.out 2; have hfz21_3 := blk_frozen BK420.out 3) | (go_at_call 43; (with_reducible refine (keystoneref2_Make.calls k a0 _ _ l1 t421 t424 t425 t426 t427 _ ?side1 ?side2 A9.out).mono ?_); (case side1 => exact Kd.C_below HR1.out (by repeat (first | (with_reducible first | exact HB.out | apply below_alloc | apply pw_below_drewN | apply below_drew1 | refine below_set ?_ GE420.out) | exact HB.out))); (case side2 => exact HC1.out); rintro e w22 ⟨v422, rfl, ho0, hb⟩; have n0_ := Aside0.mk (Kd.R_elder' (by (with_reducible repeat (first | apply Kd.R_alloc | apply Kd.R_drewN | apply Kd.R_drew)); exact (Kd.R_mono (Kd.R_far (p := ⟨gb420, 3, none⟩) (Kd.R_far (p := ⟨gb420, 2, none⟩) (Kd.R_far (p := ⟨gb420, 1, none⟩) (Kd.R_far (p := ⟨gb420, 0, none⟩) (Kd.R_types HO412.out BK420.out (by decide)) (fun _ hk => hk.2) (.slice Ao20 t413.length co20)) (fun _ hk => hk.2) (.bool t416)) (fun _ hk => hk.2) (.int .i64 t417)) (fun _ hk => hk.2) (.string t418)) (fun _ h_ => h_.1))) (Kd.R_base ho0) hb); have n1_ := Aside0.mk (Kd.R_elder' (by (with_reducible repeat (first | apply Kd.R_alloc | apply Kd.R_drewN | apply Kd.R_drew)); exact (Kd.R_mono (Kd.R_far (p := ⟨gb420, 3, none⟩) (Kd.R_far (p := ⟨gb420, 2, none⟩) (Kd.R_far (p := ⟨gb420, 1, none⟩) (Kd.R_far (p := ⟨gb420, 0, none⟩) (Kd.R_types HO415.out BK420.out (by decide)) (fun _ hk => hk.2) (.slice Ao20 t413.length co20)) (fun _ hk => hk.2) (.bool t416)) (fun _ hk => hk.2) (.int .i64 t417)) (fun _ hk => hk.2) (.string t418)) (fun _ h_ => h_.1))) (Kd.R_base ho0) hb); have n2_ := Aside0.mk (Kd.R_lower (Kd.R_new' (Kd.R_new' ho0 (Kd.R_lt (by (with_reducible repeat (first | apply Kd.R_alloc | apply Kd.R_drewN | apply Kd.R_drew)); exact (Kd.R_mono (Kd.R_far (p := ⟨gb420, 3, none⟩) (Kd.R_far (p := ⟨gb420, 2, none⟩) (Kd.R_far (p := ⟨gb420, 1, none⟩) (Kd.R_far (p := ⟨gb420, 0, none⟩) (Kd.R_types HO412.out BK420.out (by decide)) (fun _ hk => hk.2) (.slice Ao20 t413.length co20)) (fun _ hk => hk.2) (.bool t416)) (fun _ hk => hk.2) (.int .i64 t417)) (fun _ hk => hk.2) (.string t418)) (fun _ h_ => h_.1))))) (Kd.R_lt (by (with_reducible repeat (first | apply Kd.R_alloc | apply Kd.R_drewN | apply Kd.R_drew)); exact (Kd.R_mono (Kd.R_far (p := ⟨gb420, 3, none⟩) (Kd.R_far (p := ⟨gb420, 2, none⟩) (Kd.R_far (p := ⟨gb420, 1, none⟩) (Kd.R_far (p := ⟨gb420, 0, none⟩) (Kd.R_types HO415.out BK420.out (by decide)) (fun _ hk => hk.2) (.slice Ao20 t413.length co20)) (fun _ hk => hk.2) (.bool t416)) (fun _ hk => hk.2) (.int .i64 t417)) (fun _ hk => hk.2) (.string t418)) (fun _ h_ => h_.1))))) (below_size (by repeat (first | (with_reducible first | exact HB.out | apply below_alloc | apply pw_below_drewN | apply below_drew1 | refine below_set ?_ GE420.out) | exact HB.out)))); have n3_ := Aside0.mk (blk_below (g := gb420) (o := .cells #[.slice Ao20 t413.length co20, .bool t416, .int .i64 t417, .string t418] 32 (0, 0)) (by (with_reducible repeat (first | refine blk_drewN ?_ _ | refine blk_drew ?_ | refine blk_alloc ?_ _)); refine blk_put (cs := #[.slice Ao20 t413.length co20, .bool t416, .int .i64 t417, .string (⟨#[]⟩ : ByteArray)]) ?_ 3 _ rfl; (with_reducible repeat (first | refine blk_drewN ?_ _ | refine blk_drew ?_ | refine blk_alloc ?_ _)); refine blk_put (cs := #[.slice Ao20 t413.length co20, .bool t416, .int .i64 0, .string (⟨#[]⟩ : ByteArray)]) ?_ 2 _ rfl; (with_reducible repeat (first | refine blk_drewN ?_ _ | refine blk_drew ?_ | refine blk_alloc ?_ _)); refine blk_put (cs := #[.slice Ao20 t413.length co20, .bool false, .int .i64 0, .string (⟨#[]⟩ : ByteArray)]) ?_ 1 _ rfl; (with_reducible repeat (first | refine blk_drewN ?_ _ | refine blk_drew ?_ | refine blk_alloc ?_ _)); refine blk_put (cs := #[.slice none 0 0, .bool false, .int .i64 0, .string (⟨#[]⟩ : ByteArray)]) ?_ 0 _ rfl; (with_reducible repeat (first | refine blk_drewN ?_ _ | refine blk_drew ?_ | refine blk_alloc ?_ _)); exact BK420.out) hb); have n4_ := Aside0.mk (below_step (by repeat (first | (with_reducible first | exact HB.out | apply below_alloc | apply pw_below_drewN | apply below_drew1 | refine below_set ?_ GE420.out) | exact HB.out)) hb); clear HO412; clear HO415; clear BK420; clear HB; have HO412 := n0_; have HO415 := n1_; have HO423 := n2_; have BK420 := n3_; have HB := n4_; clear n0_ n1_ n2_ n3_ n4_; (try clear hb); (try clear hb2); (try clear hk); (try clear hi); (try clear ho0)) | ((with_reducible refine gate_dst (N := 8) rfl ?_); (try (refine gate_guard (by rfl) ?_; dsimp only)); refine box_event ?hg (N := 8) ?hd (cs := #[.slice none 0 0, .bool false, .int .i64 0, .string (⟨#[]⟩ : ByteArray)]) (t := 32) ?hr ?_; (case hd => rfl); (case hg => rfl); (case hr => first | (go_simp; done) | (go_simp; rfl)); intro gb428 hg w23 hbox hb; have n0_ := Aside0.mk (Kd.R_below (by (with_reducible repeat (first | apply Kd.R_alloc | apply Kd.R_drewN | apply Kd.R_drew)); exact HO412.out) hb); have n1_ := Aside0.mk (Kd.R_below (by (with_reducible repeat (first | apply Kd.R_alloc | apply Kd.R_drewN | apply Kd.R_drew)); exact HO415.out) hb); have n2_ := Aside0.mk (Kd.R_below (by (with_reducible repeat (first | apply Kd.R_alloc | apply Kd.R_drewN | apply Kd.R_drew)); exact HO423.out) hb); have n3_ := Aside0.mk (blk_below (g := gb420) (o := .cells #[.slice Ao20 t413.length co20, .bool t416, .int .i64 t417, .string t418] 32 (0, 0)) (by (with_reducible repeat (first | refine blk_drewN ?_ _ | refine blk_drew ?_ | refine blk_alloc ?_ _)); exact BK420.out) hb); have n4_ := Aside0.mk (below_step (by repeat (first | (with_reducible first | exact HB.out | apply below_alloc | apply pw_below_drewN | apply below_drew1 | refine below_set ?_ GE420.out) | exact HB.out)) hb); have n5_ := Aside0.mk (hbox); have n6_ := Aside0.mk ((by rw [hg]; exact (below_size (by repeat (first | (with_reducible first | exact HB.out | apply below_alloc | apply pw_below_drewN | apply below_drew1 | refine below_set ?_ GE420.out) | exact HB.out))) : w.heap.size ≤ gb428)); have n7_ := Aside0.mk ((by rw [hg]; exact (below_size (by repeat (first | (with_reducible first | exact HB.out | apply below_alloc | apply pw_below_drewN | apply below_drew1 | refine below_set ?_ GE420.out) | exact HB.out))) : w.heap.size ≤ gb428)); have n8_ := Aside0.mk ((by rw [hg]; exact Nat.ne_of_lt (blk_lt (g := gb420) (o := .cells #[.slice Ao20 t413.length co20, .bool t416, .int .i64 t417, .string t418] 32 (0, 0)) (by (with_reducible repeat (first | refine blk_drewN ?_ _ | refine blk_drew ?_ | refine blk_alloc ?_ _)); exact BK420.out)) : gb420 ≠ gb428)); have n9_ := Aside0.mk ((by rw [hg]; exact Nat.ne_of_gt (blk_lt (g := gb420) (o := .cells #[.slice Ao20 t413.length co20, .bool t416, .int .i64 t417, .string t418] 32 (0, 0)) (by (with_reducible repeat (first | refine blk_drewN ?_ _ | refine blk_drew ?_ | refine blk_alloc ?_ _)); exact BK420.out)) : gb428 ≠ gb420)); clear HO412; clear HO415; clear HO423; clear BK420; clear HB; have HO412 := n0_; have HO415 := n1_; have HO423 := n2_; have BK420 := n3_; have HB := n4_; have BK428 := n5_; have GW428 := n6_; have GE428 := n7_; have NB420_428 := n8_; have NB428_420 := n9_; clear n0_ n1_ n2_ n3_ n4_ n5_ n6_ n7_ n8_ n9_; clear hb hbox hg; obtain ⟨Ao24, co24, eo24⟩ := Kd.R_slice HO423.out; subst eo24; have hnb25 := NB428_420.out; have hnc25 := NB420_428.out; have hcz26_0 : w23.cell? ⟨gb428, 0, none⟩ = some (.slice none 0 0) := (blk_cell BK428.out 0).trans rfl; have hcz26_1 : w23.cell? ⟨gb428, 1, none⟩ = some (.bool false) := (blk_cell BK428.out 1).trans rfl; have hcz26_2 : w23.cell? ⟨gb428, 2, none⟩ = some (.int .i64 0) := (blk_cell BK428.out 2).trans rfl; have hcz26_3 : w23.cell? ⟨gb428, 3, none⟩ = some (.string (⟨#[]⟩ : ByteArray)) := (blk_cell BK428.out 3).trans rfl; have hfz26_0 := blk_frozen BK428.out 0; have hfz26_1 := blk_frozen BK428.out 1; have hfz26_2 := blk_frozen BK428.out 2; have hfz26_3 := blk_frozen BK428.out 3) | (go_at_call 36; (with_reducible refine (desc_Classes.calls _ _ y410 t429 _ ?side1 ?side2 A10.out).mono ?_); (case side1 => refine (Kd.R_reads' (e := 26) (base := w.heap.size) (ok := fun k_ => ((True ∧ some k_ ≠ (.slice Ao20 t413.length co20 : Value).ownBlock) ∧ some k_ ≠ (.slice Ao24 t421.length co24 : Value).ownBlock)) (n := y410.length) (c := co17) ?_).2.2; exact (by (with_reducible repeat (first | apply Kd.R_alloc | apply Kd.R_drewN | apply Kd.R_drew)); exact (Kd.R_mono (Kd.R_far (p := ⟨gb428, 3, none⟩) (Kd.R_far (p := ⟨gb428, 2, none⟩) (Kd.R_far (p := ⟨gb428, 1, none⟩) (Kd.R_far (p := ⟨gb428, 0, none⟩) (Kd.R_types HO412.out BK428.out (by decide)) (fun _ hk => hk.2) (.slice Ao24 t421.length co24)) (fun _ hk => hk.2) (.bool t424)) (fun _ hk => hk.2) (.int .i64 t425)) (fun _ hk => hk.2) (.string t426)) (fun _ h_ => h_.1)))); (case side2 => exact (Kd.R_reads' HO412.out).2.1); rintro e w27 ⟨v430, rfl, ho0, hb⟩; have n0_ := Aside0.mk (Kd.R_below (by (with_reducible repeat (first | apply Kd.R_alloc | apply Kd.R_drewN | apply Kd.R_drew)); exact (Kd.R_mono (Kd.R_far (p := ⟨gb428, 3, none⟩) (Kd.R_far (p := ⟨gb428, 2, none⟩) (Kd.R_far (p := ⟨gb428, 1, none⟩) (Kd.R_far (p := ⟨gb428, 0, none⟩) (Kd.R_types HO412.out BK428.out (by decide)) (fun _ hk => hk.2) (.slice Ao24 t421.length co24)) (fun _ hk => hk.2) (.bool t424)) (fun _ hk => hk.2) (.int .i64 t425)) (fun _ hk => hk.2) (.string t426)) (fun _ h_ => h_.1))) hb); have n1_ := Aside0.mk (Kd.R_below (by (with_reducible repeat (first | apply Kd.R_alloc | apply Kd.R_drewN | apply Kd.R_drew)); exact (Kd.R_mono (Kd.R_far (p := ⟨gb428, 3, none⟩) (Kd.R_far (p := ⟨gb428, 2, none⟩) (Kd.R_far (p := ⟨gb428, 1, none⟩) (Kd.R_far (p := ⟨gb428, 0, none⟩) (Kd.R_types HO415.out BK428.out (by decide)) (fun _ hk => hk.2) (.slice Ao24 t421.length co24)) (fun _ hk => hk.2) (.bool t424)) (fun _ hk => hk.2) (.int .i64 t425)) (fun _ hk => hk.2) (.string t426)) (fun _ h_ => h_.1))) hb); have n2_ := Aside0.mk (Kd.R_below (by (with_reducible repeat (first | apply Kd.R_alloc | apply Kd.R_drewN | apply Kd.R_drew)); exact (Kd.R_mono (Kd.R_far (p := ⟨gb428, 3, none⟩) (Kd.R_far (p := ⟨gb428, 2, none⟩) (Kd.R_far (p := ⟨gb428, 1, none⟩) (Kd.R_far (p := ⟨gb428, 0, none⟩) (Kd.R_types HO423.out BK428.out (by decide)) (fun _ hk => hk.2) (.slice Ao24 t421.length co24)) (fun _ hk => hk.2) (.bool t424)) (fun _ hk => hk.2) (.int .i64 t425)) (fun _ hk => hk.2) (.string t426)) (fun _ h_ => h_.1))) hb); have n3_ := Aside0.mk (Kd.R_lower ho0 (below_size (by repeat (first | (with_reducible first | exact HB.out | apply below_alloc | apply pw_below_drewN | apply below_drew1 | refine below_set ?_ GE420.out | refine below_set ?_ GE428.out) | exact HB.out)))); have n4_ := Aside0.mk (blk_below (g := gb420) (o := .cells #[.slice Ao20 t413.length co20, .bool t416, .int .i64 t417, .string t418] 32 (0, 0)) (by (with_reducible repeat (first | refine blk_drewN ?_ _ | refine blk_drew ?_ | refine blk_alloc ?_ _)); refine blk_far ?_ NB420_428.out _; (with_reducible repeat (first | refine blk_drewN ?_ _ | refine blk_drew ?_ | refine blk_alloc ?_ _)); refine blk_far ?_ NB420_428.out _; (with_reducible repeat (first | refine blk_drewN ?_ _ | refine blk_drew ?_ | refine blk_alloc ?_ _)); refine blk_far ?_ NB420_428.out _; (with_reducible repeat (first | refine blk_drewN ?_ _ | refine blk_drew ?_ | refine blk_alloc ?_ _)); refine blk_far ?_ NB420_428.out _; (with_reducible repeat (first | refine blk_drewN ?_ _ | refine blk_drew ?_ | refine blk_alloc ?_ _)); exact BK420.out) hb); have n5_ := Aside0.mk (blk_below (g := gb428) (o := .cells #[.slice Ao24 t421.length co24, .bool t424, .int .i64 t425, .string t426] 32 (0, 0)) (by (with_reducible repeat (first | refine blk_drewN ?_ _ | refine blk_drew ?_ | refine blk_alloc ?_ _)); refine blk_put (cs := #[.slice Ao24 t421.length co24, .bool t424, .int .i64 t425, .string (⟨#[]⟩ : ByteArray)]) ?_ 3 _ rfl; (with_reducible repeat (first | refine blk_drewN ?_ _ | refine blk_drew ?_ | refine blk_alloc ?_ _)); refine blk_put (cs := #[.slice Ao24 t421.length co24, .bool t424, .int .i64 0, .string (⟨#[]⟩ : ByteArray)]) ?_ 2 _ rfl; (with_reducible repeat (first | refine blk_drewN ?_ _ | refine blk_drew ?_ | refine blk_alloc ?_ _)); refine blk_put (cs := #[.slice Ao24 t421.length co24, .bool false, .int .i64 0, .string (⟨#[]⟩ : ByteArray)]) ?_ 1 _ rfl; (with_reducible repeat (first | refine blk_drewN ?_ _ | refine blk_drew ?_ | refine blk_alloc ?_ _)); refine blk_put (cs := #[.slice none 0 0, .bool false, .int .i64 0, .string (⟨#[]⟩ : ByteArray)]) ?_ 0 _ rfl; (with_reducible repeat (first | refine blk_drewN ?_ _ | refine blk_drew ?_ | refine blk_alloc ?_ _)); exact BK428.out) hb); have n6_ := Aside0.mk (below_step (by repeat (first | (with_reducible first | exact HB.out | apply below_alloc | apply pw_below_drewN | apply below_drew1 | refine below_set ?_ GE420.out | refine below_set ?_ GE428.out) | exact HB.out)) hb); clear HO412; clear HO415; clear HO423; clear BK420; clear BK428; clear HB; have HO412 := n0_; have HO415 := n1_; have HO423 := n2_; have HO431 := n3_; have BK420 := n4_; have BK428 := n5_; have HB := n6_; clear n0_ n1_ n2_ n3_ n4_ n5_ n6_; (try clear hb); (try clear hb2); (try clear hk); (try clear hi); (try clear ho0)) | (go_at_call 44; (with_reducible refine (keystoneref2_Classes.calls k _ _ l1 t432 _ ?side1 ?side2 A11.out).mono ?_); (case side1 => repeat (first | exact (Kd.C_below HR1.out HB.out) | (with_reducible refine Kd.C_alloc ?_ _) | (with_reducible refine Kd.C_drewN ?_ _) | (with_reducible refine Kd.C_drew ?_))); (case side2 => exact HC1.out); rintro e w28 ⟨v433, rfl, ho0, hb⟩; have n0_ := Aside0.mk (Kd.R_below (by (with_reducible repeat (first | apply Kd.R_alloc | apply Kd.R_drewN | apply Kd.R_drew)); exact HO412.out) hb); have n1_ := Aside0.mk (Kd.R_below (by (with_reducible repeat (first | apply Kd.R_alloc | apply Kd.R_drewN | apply Kd.R_drew)); exact HO415.out) hb); have n2_ := Aside0.mk (Kd.R_below (by (with_reducible repeat (first | apply Kd.R_alloc | apply Kd.R_drewN | apply Kd.R_drew)); exact HO423.out) hb); have n3_ := Aside0.mk (Kd.R_elder' (by (with_reducible repeat (first | apply Kd.R_alloc | apply Kd.R_drewN | apply Kd.R_drew)); exact HO431.out) (Kd.R_base ho0) hb); have n4_ := Aside0.mk (Kd.R_lower (Kd.R_new' ho0 (Kd.R_lt (by (with_reducible repeat (first | apply Kd.R_alloc | apply Kd.R_drewN | apply Kd.R_drew)); exact HO431.out))) (below_size (by repeat (first | (with_reducible first | exact HB.out | apply below_alloc | apply pw_below_drewN | apply below_drew1 | refine below_set ?_ GE420.out | refine below_set ?_ GE428.out) | exact HB.out)))); have n5_ := Aside0.mk (blk_below (g := gb420) (o := .cells #[.slice Ao20 t413.length co20, .bool t416, .int .i64 t417, .string t418] 32 (0, 0)) (by (with_reducible repeat (first | refine blk_drewN ?_ _ | refine blk_drew ?_ | refine blk_alloc ?_ _)); exact BK420.out) hb); have n6_ := Aside0.mk (blk_below (g := gb428) (o := .cells #[.slice Ao24 t421.length co24, .bool t424, .int .i64 t425, .string t426] 32 (0, 0)) (by (with_reducible repeat (first | refine blk_drewN ?_ _ | refine blk_drew ?_ | refine blk_alloc ?_ _)); exact BK428.out) hb); have n7_ := Aside0.mk (below_step (by repeat (first | (with_reducible first | exact HB.out | apply below_alloc | apply pw_below_drewN | apply below_drew1 | refine below_set ?_ GE420.out | refine below_set ?_ GE428.out) | exact HB.out)) hb); clear HO412; clear HO415; clear HO423; clear HO431; clear BK420; clear BK428; clear HB; have HO412 := n0_; have HO415 := n1_; have HO423 := n2_; have HO431 := n3_; have HO434 := n4_; have BK420 := n5_; have BK428 := n6_; have HB := n7_; clear n0_ n1_ n2_ n3_ n4_ n5_ n6_ n7_; (try clear hb); (try clear hb2); (try clear hk); (try clear hi); (try clear ho0))))
        (try simp only [Act.put, List.setIfInBounds_toArray, List.set_cons_zero, List.set_cons_succ])
        go_cut [53] (fun v53 wc => ∃ (kq : Nat) (x53_11 : Bool), v53 = .bool x53_11 ∧ Aside0 (keystonelaw2_DescMakes.j0 kq l1 y410 t429 t432 x53_11 = some r) ∧ Aside0 (kq ≤ k) ∧ Aside0 (Kd.R k26 26 wc w.heap.size (fun k_ => some k_ ≠ ((.slice Ao20 t413.length co20) : Value).ownBlock ∧ some k_ ≠ ((.slice Ao24 t421.length co24) : Value).ownBlock) (.slice Ao17 y410.length co17) y410) ∧ Aside0 (Kd.R Kd.string 9 wc w.heap.size (fun k_ => some k_ ≠ (v433 : Value).ownBlock) v430 t429) ∧ Aside0 (Kd.R Kd.string 9 wc w.heap.size (fun k_ => some k_ ≠ (v430 : Value).ownBlock) v433 t432) ∧ Aside0 (Kd.R k26 26 wc w.heap.size (fun k_ => some k_ ≠ ((.slice Ao17 y410.length co17) : Value).ownBlock ∧ some k_ ≠ ((.slice Ao24 t421.length co24) : Value).ownBlock) (.slice Ao20 t413.length co20) t413) ∧ Aside0 (Kd.R k26 26 wc w.heap.size (fun k_ => some k_ ≠ ((.slice Ao17 y410.length co17) : Value).ownBlock ∧ some k_ ≠ ((.slice Ao20 t413.length co20) : Value).ownBlock) (.slice Ao24 t421.length co24) t421) ∧ Aside0 (wc.heap[gb420]? = some (.cells #[(.slice Ao20 t413.length co20), .bool t416, .int .i64 t417, .string t418] 32 (0, 0))) ∧ Aside0 (wc.heap[gb428]? = some (.cells #[(.slice Ao24 t421.length co24), .bool t424, .int .i64 t425, .string t426] 32 (0, 0))) ∧ Aside0 (Below w.heap.size w wc))
        case first =>
          have H := HC12.out
          clear HC12
          replace H := Option.bind_eq_some_iff.mp H
          obtain ⟨t435, A290, H⟩ := H
          replace H : (if t435 = true then (if t419 = t427 then (keystonelaw2_DescMakes.j0 k l1 y410 t429 t432 ((t429.length : Int) != (t432.length : Int))) else (keystonelaw2_DescMakes.j0 k l1 y410 t429 t432 true)) else (keystonelaw2_DescMakes.j0 k l1 y410 t429 t432 true)) = some r := H
          have A29 := Aside0.mk A290
          clear A290
          by_cases c30 : t435 = true
          · subst c30
            have H1 : (if t419 = t427 then (keystonelaw2_DescMakes.j0 k l1 y410 t429 t432 ((t429.length : Int) != (t432.length : Int))) else (keystonelaw2_DescMakes.j0 k l1 y410 t429 t432 true)) = some r := by rw [if_pos rfl] at H; exact H
            clear H
            have H := H1
            clear H1
            by_cases c31 : t419 = t427
            · rw [if_pos c31] at H
              have c31b0 : (t419 == t427) = true := beq_iff_eq.mpr c31
              have c31b1 : (t419 != t427) = false := bne_eq_false_iff_eq.mpr c31
              clear c31
              (first | rw [c31b0] | (simp only [i64_w, i32_w]; rw [c31b0]) | skip)
              have H' := Aside0.mk H
              clear H
              have hnb32 := NB420_428.out
              have hnc32 := NB428_420.out
              have hcz33_0 : w28.cell? ⟨gb420, 0, none⟩ = some (.slice Ao20 t413.length co20) := (blk_cell BK420.out 0).trans rfl
              have hcz33_1 : w28.cell? ⟨gb420, 1, none⟩ = some (.bool t416) := (blk_cell BK420.out 1).trans rfl
              have hcz33_2 : w28.cell? ⟨gb420, 2, none⟩ = some (.int .i64 t417) := (blk_cell BK420.out 2).trans rfl
              have hcz33_3 : w28.cell? ⟨gb420, 3, none⟩ = some (.string t418) := (blk_cell BK420.out 3).trans rfl
              have hfz33_0 := blk_frozen BK420.out 0
              have hfz33_1 := blk_frozen BK420.out 1
              have hfz33_2 := blk_frozen BK420.out 2
              have hfz33_3 := blk_frozen BK420.out 3
              have hcz34_0 : w28.cell? ⟨gb428, 0, none⟩ = some (.slice Ao24 t421.length co24) := (blk_cell BK428.out 0).trans rfl
              have hcz34_1 : w28.cell? ⟨gb428, 1, none⟩ = some (.bool t424) := (blk_cell BK428.out 1).trans rfl
              have hcz34_2 : w28.cell? ⟨gb428, 2, none⟩ = some (.int .i64 t425) := (blk_cell BK428.out 2).trans rfl
              have hcz34_3 : w28.cell? ⟨gb428, 3, none⟩ = some (.string t426) := (blk_cell BK428.out 3).trans rfl
              have hfz34_0 := blk_frozen BK428.out 0
              have hfz34_1 := blk_frozen BK428.out 1
              have hfz34_2 := blk_frozen BK428.out 2
              have hfz34_3 := blk_frozen BK428.out 3
              go_wp2_with (first | (go_at_call 40; (with_reducible refine (keystoneref2_Same.calls k _ _ t413 t416 t417 t418 _ _ t421 t424 t425 t426 true _ ?side1 ?side2 ?side3 ?side4 A29.out).mono ?_); (case side1 => repeat (first | exact (Kd.R_reads' HO415.out).2.2 | (with_reducible refine Kd.C_alloc ?_ _) | (with_reducible refine Kd.C_drewN ?_ _) | (with_reducible refine Kd.C_drew ?_))); (case side2 => exact (Kd.R_reads' HO415.out).2.1); (case side3 => repeat (first | exact (Kd.R_reads' HO423.out).2.2 | (with_reducible refine Kd.C_alloc ?_ _) | (with_reducible refine Kd.C_drewN ?_ _) | (with_reducible refine Kd.C_drew ?_))); (case side4 => exact (Kd.R_reads' HO423.out).2.1); rintro e w35 ⟨rfl, hb⟩; have n0_ := Aside0.mk (Kd.R_below (by (with_reducible repeat (first | apply Kd.R_alloc | apply Kd.R_drewN | apply Kd.R_drew)); exact HO412.out) hb); have n1_ := Aside0.mk (Kd.R_below (by (with_reducible repeat (first | apply Kd.R_alloc | apply Kd.R_drewN | apply Kd.R_drew)); exact HO415.out) hb); have n2_ := Aside0.mk (Kd.R_below (by (with_reducible repeat (first | apply Kd.R_alloc | apply Kd.R_drewN | apply Kd.R_drew)); exact HO423.out) hb); have n3_ := Aside0.mk (Kd.R_below (by (with_reducible repeat (first | apply Kd.R_alloc | apply Kd.R_drewN | apply Kd.R_drew)); exact HO431.out) hb); have n4_ := Aside0.mk (Kd.R_below (by (with_reducible repeat (first | apply Kd.R_alloc | apply Kd.R_drewN | apply Kd.R_drew)); exact HO434.out) hb); have n5_ := Aside0.mk (blk_below (g := gb420) (o := .cells #[.slice Ao20 t413.length co20, .bool t416, .int .i64 t417, .string t418] 32 (0, 0)) (by (with_reducible repeat (first | refine blk_drewN ?_ _ | refine blk_drew ?_ | refine blk_alloc ?_ _)); exact BK420.out) hb); have n6_ := Aside0.mk (blk_below (g := gb428) (o := .cells #[.slice Ao24 t421.length co24, .bool t424, .int .i64 t425, .string t426] 32 (0, 0)) (by (with_reducible repeat (first | refine blk_drewN ?_ _ | refine blk_drew ?_ | refine blk_alloc ?_ _)); exact BK428.out) hb); have n7_ := Aside0.mk (below_step (by repeat (first | (with_reducible first | exact HB.out | apply below_alloc | apply pw_below_drewN | apply below_drew1 | refine below_set ?_ GE420.out | refine below_set ?_ GE428.out) | exact HB.out)) hb); clear HO412; clear HO415; clear HO423; clear HO431; clear HO434; clear BK420; clear BK428; clear HB; have HO412 := n0_; have HO415 := n1_; have HO423 := n2_; have HO431 := n3_; have HO434 := n4_; have BK420 := n5_; have BK428 := n6_; have HB := n7_; clear n0_ n1_ n2_ n3_ n4_ n5_ n6_ n7_; (try clear hb); (try clear hb2); (try clear hk); (try clear hi); obtain ⟨Ao36, co36, eo36⟩ := Kd.R_slice HO431.out; subst eo36; obtain ⟨Ao37, co37, eo37⟩ := Kd.R_slice HO434.out; subst eo37))
              repeat (go_quiet (first | (go_at_call 40; (with_reducible refine (keystoneref2_Same.calls k _ _ t413 t416 t417 t418 _ _ t421 t424 t425 t426 true _ ?side1 ?side2 ?side3 ?side4 A29.out).mono ?_); (case side1 => repeat (first | exact (Kd.R_reads' HO415.out).2.2 | (with_reducible refine Kd.C_alloc ?_ _) | (with_reducible refine Kd.C_drewN ?_ _) | (with_reducible refine Kd.C_drew ?_))); (case side2 => exact (Kd.R_reads' HO415.out).2.1); (case side3 => repeat (first | exact (Kd.R_reads' HO423.out).2.2 | (with_reducible refine Kd.C_alloc ?_ _) | (with_reducible refine Kd.C_drewN ?_ _) | (with_reducible refine Kd.C_drew ?_))); (case side4 => exact (Kd.R_reads' HO423.out).2.1); rintro e w35 ⟨rfl, hb⟩; have n0_ := Aside0.mk (Kd.R_below (by (with_reducible repeat (first | apply Kd.R_alloc | apply Kd.R_drewN | apply Kd.R_drew)); exact HO412.out) hb); have n1_ := Aside0.mk (Kd.R_below (by (with_reducible repeat (first | apply Kd.R_alloc | apply Kd.R_drewN | apply Kd.R_drew)); exact HO415.out) hb); have n2_ := Aside0.mk (Kd.R_below (by (with_reducible repeat (first | apply Kd.R_alloc | apply Kd.R_drewN | apply Kd.R_drew)); exact HO423.out) hb); have n3_ := Aside0.mk (Kd.R_below (by (with_reducible repeat (first | apply Kd.R_alloc | apply Kd.R_drewN | apply Kd.R_drew)); exact HO431.out) hb); have n4_ := Aside0.mk (Kd.R_below (by (with_reducible repeat (first | apply Kd.R_alloc | apply Kd.R_drewN | apply Kd.R_drew)); exact HO434.out) hb); have n5_ := Aside0.mk (blk_below (g := gb420) (o := .cells #[.slice Ao20 t413.length co20, .bool t416, .int .i64 t417, .string t418] 32 (0, 0)) (by (with_reducible repeat (first | refine blk_drewN ?_ _ | refine blk_drew ?_ | refine blk_alloc ?_ _)); exact BK420.out) hb); have n6_ := Aside0.mk (blk_below (g := gb428) (o := .cells #[.slice Ao24 t421.length co24, .bool t424, .int .i64 t425, .string t426] 32 (0, 0)) (by (with_reducible repeat (first | refine blk_drewN ?_ _ | refine blk_drew ?_ | refine blk_alloc ?_ _)); exact BK428.out) hb); have n7_ := Aside0.mk (below_step (by repeat (first | (with_reducible first | exact HB.out | apply below_alloc | apply pw_below_drewN | apply below_drew1 | refine below_set ?_ GE420.out | refine below_set ?_ GE428.out) | exact HB.out)) hb); clear HO412; clear HO415; clear HO423; clear HO431; clear HO434; clear BK420; clear BK428; clear HB; have HO412 := n0_; have HO415 := n1_; have HO423 := n2_; have HO431 := n3_; have HO434 := n4_; have BK420 := n5_; have BK428 := n6_; have HB := n7_; clear n0_ n1_ n2_ n3_ n4_ n5_ n6_ n7_; (try clear hb); (try clear hb2); (try clear hk); (try clear hi); obtain ⟨Ao36, co36, eo36⟩ := Kd.R_slice HO431.out; subst eo36; obtain ⟨Ao37, co37, eo37⟩ := Kd.R_slice HO434.out; subst eo37)); try go_wp2_with (first | (go_at_call 40; (with_reducible refine (keystoneref2_Same.calls k _ _ t413 t416 t417 t418 _ _ t421 t424 t425 t426 true _ ?side1 ?side2 ?side3 ?side4 A29.out).mono ?_); (case side1 => repeat (first | exact (Kd.R_reads' HO415.out).2.2 | (with_reducible refine Kd.C_alloc ?_ _) | (with_reducible refine Kd.C_drewN ?_ _) | (with_reducible refine Kd.C_drew ?_))); (case side2 => exact (Kd.R_reads' HO415.out).2.1); (case side3 => repeat (first | exact (Kd.R_reads' HO423.out).2.2 | (with_reducible refine Kd.C_alloc ?_ _) | (with_reducible refine Kd.C_drewN ?_ _) | (with_reducible refine Kd.C_drew ?_))); (case side4 => exact (Kd.R_reads' HO423.out).2.1); rintro e w35 ⟨rfl, hb⟩; have n0_ := Aside0.mk (Kd.R_below (by (with_reducible repeat (first | apply Kd.R_alloc | apply Kd.R_drewN | apply Kd.R_drew)); exact HO412.out) hb); have n1_ := Aside0.mk (Kd.R_below (by (with_reducible repeat (first | apply Kd.R_alloc | apply Kd.R_drewN | apply Kd.R_drew)); exact HO415.out) hb); have n2_ := Aside0.mk (Kd.R_below (by (with_reducible repeat (first | apply Kd.R_alloc | apply Kd.R_drewN | apply Kd.R_drew)); exact HO423.out) hb); have n3_ := Aside0.mk (Kd.R_below (by (with_reducible repeat (first | apply Kd.R_alloc | apply Kd.R_drewN | apply Kd.R_drew)); exact HO431.out) hb); have n4_ := Aside0.mk (Kd.R_below (by (with_reducible repeat (first | apply Kd.R_alloc | apply Kd.R_drewN | apply Kd.R_drew)); exact HO434.out) hb); have n5_ := Aside0.mk (blk_below (g := gb420) (o := .cells #[.slice Ao20 t413.length co20, .bool t416, .int .i64 t417, .string t418] 32 (0, 0)) (by (with_reducible repeat (first | refine blk_drewN ?_ _ | refine blk_drew ?_ | refine blk_alloc ?_ _)); exact BK420.out) hb); have n6_ := Aside0.mk (blk_below (g := gb428) (o := .cells #[.slice Ao24 t421.length co24, .bool t424, .int .i64 t425, .string t426] 32 (0, 0)) (by (with_reducible repeat (first | refine blk_drewN ?_ _ | refine blk_drew ?_ | refine blk_alloc ?_ _)); exact BK428.out) hb); have n7_ := Aside0.mk (below_step (by repeat (first | (with_reducible first | exact HB.out | apply below_alloc | apply pw_below_drewN | apply below_drew1 | refine below_set ?_ GE420.out | refine below_set ?_ GE428.out) | exact HB.out)) hb); clear HO412; clear HO415; clear HO423; clear HO431; clear HO434; clear BK420; clear BK428; clear HB; have HO412 := n0_; have HO415 := n1_; have HO423 := n2_; have HO431 := n3_; have HO434 := n4_; have BK420 := n5_; have BK428 := n6_; have HB := n7_; clear n0_ n1_ n2_ n3_ n4_ n5_ n6_ n7_; (try clear hb); (try clear hb2); (try clear hk); (try clear hi); obtain ⟨Ao36, co36, eo36⟩ := Kd.R_slice HO431.out; subst eo36; obtain ⟨Ao37, co37, eo37⟩ := Kd.R_slice HO434.out; subst eo37)))
              go_meet
              case rel => exact ⟨_, (((t429.length : Int) != (t432.length : Int))), (by first | rfl | (simp; done) | (simp [*]; done) | (simp [wrap64]; done)), H', ⟨by first | omega | exact Nat.le_refl _⟩, ⟨by (with_reducible repeat (first | apply Kd.R_alloc | apply Kd.R_drewN | apply Kd.R_drew)); exact Kd.R_mono HO412.out (fun _ hk => ⟨hk.1.2, hk.2⟩)⟩, ⟨by (with_reducible repeat (first | apply Kd.R_alloc | apply Kd.R_drewN | apply Kd.R_drew)); exact Kd.R_mono HO431.out (fun _ hk => hk.2)⟩, ⟨by (with_reducible repeat (first | apply Kd.R_alloc | apply Kd.R_drewN | apply Kd.R_drew)); exact Kd.R_mono HO434.out (fun _ hk => hk.2)⟩, ⟨by (with_reducible repeat (first | apply Kd.R_alloc | apply Kd.R_drewN | apply Kd.R_drew)); exact Kd.R_mono HO415.out (fun _ hk => ⟨hk.1.2, hk.2⟩)⟩, ⟨by (with_reducible repeat (first | apply Kd.R_alloc | apply Kd.R_drewN | apply Kd.R_drew)); exact Kd.R_mono HO423.out (fun _ hk => ⟨hk.1.2, hk.2⟩)⟩, ⟨by (with_reducible repeat (first | refine blk_drewN ?_ _ | refine blk_drew ?_ | refine blk_alloc ?_ _)); exact BK420.out⟩, ⟨by (with_reducible repeat (first | refine blk_drewN ?_ _ | refine blk_drew ?_ | refine blk_alloc ?_ _)); exact BK428.out⟩, ⟨by repeat (first | (with_reducible first | exact HB.out | apply below_alloc | apply pw_below_drewN | apply below_drew1 | refine below_set ?_ GE420.out | refine below_set ?_ GE428.out) | exact HB.out)⟩⟩
            · rw [if_neg c31] at H
              have c31b0 : (t419 == t427) = false := beq_eq_false_iff_ne.mpr c31
              have c31b1 : (t419 != t427) = true := bne_iff_ne.mpr c31
              (first | rw [c31b0] | (simp only [i64_w, i32_w]; rw [c31b0]) | skip)
              have H' := Aside0.mk H
              clear H
              have hnb38 := NB420_428.out
              have hnc38 := NB428_420.out
              have hcz39_0 : w28.cell? ⟨gb420, 0, none⟩ = some (.slice Ao20 t413.length co20) := (blk_cell BK420.out 0).trans rfl
              have hcz39_1 : w28.cell? ⟨gb420, 1, none⟩ = some (.bool t416) := (blk_cell BK420.out 1).trans rfl
              have hcz39_2 : w28.cell? ⟨gb420, 2, none⟩ = some (.int .i64 t417) := (blk_cell BK420.out 2).trans rfl
              have hcz39_3 : w28.cell? ⟨gb420, 3, none⟩ = some (.string t418) := (blk_cell BK420.out 3).trans rfl
              have hfz39_0 := blk_frozen BK420.out 0
              have hfz39_1 := blk_frozen BK420.out 1
              have hfz39_2 := blk_frozen BK420.out 2
              have hfz39_3 := blk_frozen BK420.out 3
              have hcz40_0 : w28.cell? ⟨gb428, 0, none⟩ = some (.slice Ao24 t421.length co24) := (blk_cell BK428.out 0).trans rfl
              have hcz40_1 : w28.cell? ⟨gb428, 1, none⟩ = some (.bool t424) := (blk_cell BK428.out 1).trans rfl
              have hcz40_2 : w28.cell? ⟨gb428, 2, none⟩ = some (.int .i64 t425) := (blk_cell BK428.out 2).trans rfl
              have hcz40_3 : w28.cell? ⟨gb428, 3, none⟩ = some (.string t426) := (blk_cell BK428.out 3).trans rfl
              have hfz40_0 := blk_frozen BK428.out 0
              have hfz40_1 := blk_frozen BK428.out 1
              have hfz40_2 := blk_frozen BK428.out 2
              have hfz40_3 := blk_frozen BK428.out 3
              go_wp2_with (first | (go_at_call 40; (with_reducible refine (keystoneref2_Same.calls k _ _ t413 t416 t417 t418 _ _ t421 t424 t425 t426 true _ ?side1 ?side2 ?side3 ?side4 A29.out).mono ?_); (case side1 => repeat (first | exact (Kd.R_reads' HO415.out).2.2 | (with_reducible refine Kd.C_alloc ?_ _) | (with_reducible refine Kd.C_drewN ?_ _) | (with_reducible refine Kd.C_drew ?_))); (case side2 => exact (Kd.R_reads' HO415.out).2.1); (case side3 => repeat (first | exact (Kd.R_reads' HO423.out).2.2 | (with_reducible refine Kd.C_alloc ?_ _) | (with_reducible refine Kd.C_drewN ?_ _) | (with_reducible refine Kd.C_drew ?_))); (case side4 => exact (Kd.R_reads' HO423.out).2.1); rintro e w41 ⟨rfl, hb⟩; have n0_ := Aside0.mk (Kd.R_below (by (with_reducible repeat (first | apply Kd.R_alloc | apply Kd.R_drewN | apply Kd.R_drew)); exact HO412.out) hb); have n1_ := Aside0.mk (Kd.R_below (by (with_reducible repeat (first | apply Kd.R_alloc | apply Kd.R_drewN | apply Kd.R_drew)); exact HO415.out) hb); have n2_ := Aside0.mk (Kd.R_below (by (with_reducible repeat (first | apply Kd.R_alloc | apply Kd.R_drewN | apply Kd.R_drew)); exact HO423.out) hb); have n3_ := Aside0.mk (Kd.R_below (by (with_reducible repeat (first | apply Kd.R_alloc | apply Kd.R_drewN | apply Kd.R_drew)); exact HO431.out) hb); have n4_ := Aside0.mk (Kd.R_below (by (with_reducible repeat (first | apply Kd.R_alloc | apply Kd.R_drewN | apply Kd.R_drew)); exact HO434.out) hb); have n5_ := Aside0.mk (blk_below (g := gb420) (o := .cells #[.slice Ao20 t413.length co20, .bool t416, .int .i64 t417, .string t418] 32 (0, 0)) (by (with_reducible repeat (first | refine blk_drewN ?_ _ | refine blk_drew ?_ | refine blk_alloc ?_ _)); exact BK420.out) hb); have n6_ := Aside0.mk (blk_below (g := gb428) (o := .cells #[.slice Ao24 t421.length co24, .bool t424, .int .i64 t425, .string t426] 32 (0, 0)) (by (with_reducible repeat (first | refine blk_drewN ?_ _ | refine blk_drew ?_ | refine blk_alloc ?_ _)); exact BK428.out) hb); have n7_ := Aside0.mk (below_step (by repeat (first | (with_reducible first | exact HB.out | apply below_alloc | apply pw_below_drewN | apply below_drew1 | refine below_set ?_ GE420.out | refine below_set ?_ GE428.out) | exact HB.out)) hb); clear HO412; clear HO415; clear HO423; clear HO431; clear HO434; clear BK420; clear BK428; clear HB; have HO412 := n0_; have HO415 := n1_; have HO423 := n2_; have HO431 := n3_; have HO434 := n4_; have BK420 := n5_; have BK428 := n6_; have HB := n7_; clear n0_ n1_ n2_ n3_ n4_ n5_ n6_ n7_; (try clear hb); (try clear hb2); (try clear hk); (try clear hi)))
              repeat (go_quiet (first | (go_at_call 40; (with_reducible refine (keystoneref2_Same.calls k _ _ t413 t416 t417 t418 _ _ t421 t424 t425 t426 true _ ?side1 ?side2 ?side3 ?side4 A29.out).mono ?_); (case side1 => repeat (first | exact (Kd.R_reads' HO415.out).2.2 | (with_reducible refine Kd.C_alloc ?_ _) | (with_reducible refine Kd.C_drewN ?_ _) | (with_reducible refine Kd.C_drew ?_))); (case side2 => exact (Kd.R_reads' HO415.out).2.1); (case side3 => repeat (first | exact (Kd.R_reads' HO423.out).2.2 | (with_reducible refine Kd.C_alloc ?_ _) | (with_reducible refine Kd.C_drewN ?_ _) | (with_reducible refine Kd.C_drew ?_))); (case side4 => exact (Kd.R_reads' HO423.out).2.1); rintro e w41 ⟨rfl, hb⟩; have n0_ := Aside0.mk (Kd.R_below (by (with_reducible repeat (first | apply Kd.R_alloc | apply Kd.R_drewN | apply Kd.R_drew)); exact HO412.out) hb); have n1_ := Aside0.mk (Kd.R_below (by (with_reducible repeat (first | apply Kd.R_alloc | apply Kd.R_drewN | apply Kd.R_drew)); exact HO415.out) hb); have n2_ := Aside0.mk (Kd.R_below (by (with_reducible repeat (first | apply Kd.R_alloc | apply Kd.R_drewN | apply Kd.R_drew)); exact HO423.out) hb); have n3_ := Aside0.mk (Kd.R_below (by (with_reducible repeat (first | apply Kd.R_alloc | apply Kd.R_drewN | apply Kd.R_drew)); exact HO431.out) hb); have n4_ := Aside0.mk (Kd.R_below (by (with_reducible repeat (first | apply Kd.R_alloc | apply Kd.R_drewN | apply Kd.R_drew)); exact HO434.out) hb); have n5_ := Aside0.mk (blk_below (g := gb420) (o := .cells #[.slice Ao20 t413.length co20, .bool t416, .int .i64 t417, .string t418] 32 (0, 0)) (by (with_reducible repeat (first | refine blk_drewN ?_ _ | refine blk_drew ?_ | refine blk_alloc ?_ _)); exact BK420.out) hb); have n6_ := Aside0.mk (blk_below (g := gb428) (o := .cells #[.slice Ao24 t421.length co24, .bool t424, .int .i64 t425, .string t426] 32 (0, 0)) (by (with_reducible repeat (first | refine blk_drewN ?_ _ | refine blk_drew ?_ | refine blk_alloc ?_ _)); exact BK428.out) hb); have n7_ := Aside0.mk (below_step (by repeat (first | (with_reducible first | exact HB.out | apply below_alloc | apply pw_below_drewN | apply below_drew1 | refine below_set ?_ GE420.out | refine below_set ?_ GE428.out) | exact HB.out)) hb); clear HO412; clear HO415; clear HO423; clear HO431; clear HO434; clear BK420; clear BK428; clear HB; have HO412 := n0_; have HO415 := n1_; have HO423 := n2_; have HO431 := n3_; have HO434 := n4_; have BK420 := n5_; have BK428 := n6_; have HB := n7_; clear n0_ n1_ n2_ n3_ n4_ n5_ n6_ n7_; (try clear hb); (try clear hb2); (try clear hk); (try clear hi))); try go_wp2_with (first | (go_at_call 40; (with_reducible refine (keystoneref2_Same.calls k _ _ t413 t416 t417 t418 _ _ t421 t424 t425 t426 true _ ?side1 ?side2 ?side3 ?side4 A29.out).mono ?_); (case side1 => repeat (first | exact (Kd.R_reads' HO415.out).2.2 | (with_reducible refine Kd.C_alloc ?_ _) | (with_reducible refine Kd.C_drewN ?_ _) | (with_reducible refine Kd.C_drew ?_))); (case side2 => exact (Kd.R_reads' HO415.out).2.1); (case side3 => repeat (first | exact (Kd.R_reads' HO423.out).2.2 | (with_reducible refine Kd.C_alloc ?_ _) | (with_reducible refine Kd.C_drewN ?_ _) | (with_reducible refine Kd.C_drew ?_))); (case side4 => exact (Kd.R_reads' HO423.out).2.1); rintro e w41 ⟨rfl, hb⟩; have n0_ := Aside0.mk (Kd.R_below (by (with_reducible repeat (first | apply Kd.R_alloc | apply Kd.R_drewN | apply Kd.R_drew)); exact HO412.out) hb); have n1_ := Aside0.mk (Kd.R_below (by (with_reducible repeat (first | apply Kd.R_alloc | apply Kd.R_drewN | apply Kd.R_drew)); exact HO415.out) hb); have n2_ := Aside0.mk (Kd.R_below (by (with_reducible repeat (first | apply Kd.R_alloc | apply Kd.R_drewN | apply Kd.R_drew)); exact HO423.out) hb); have n3_ := Aside0.mk (Kd.R_below (by (with_reducible repeat (first | apply Kd.R_alloc | apply Kd.R_drewN | apply Kd.R_drew)); exact HO431.out) hb); have n4_ := Aside0.mk (Kd.R_below (by (with_reducible repeat (first | apply Kd.R_alloc | apply Kd.R_drewN | apply Kd.R_drew)); exact HO434.out) hb); have n5_ := Aside0.mk (blk_below (g := gb420) (o := .cells #[.slice Ao20 t413.length co20, .bool t416, .int .i64 t417, .string t418] 32 (0, 0)) (by (with_reducible repeat (first | refine blk_drewN ?_ _ | refine blk_drew ?_ | refine blk_alloc ?_ _)); exact BK420.out) hb); have n6_ := Aside0.mk (blk_below (g := gb428) (o := .cells #[.slice Ao24 t421.length co24, .bool t424, .int .i64 t425, .string t426] 32 (0, 0)) (by (with_reducible repeat (first | refine blk_drewN ?_ _ | refine blk_drew ?_ | refine blk_alloc ?_ _)); exact BK428.out) hb); have n7_ := Aside0.mk (below_step (by repeat (first | (with_reducible first | exact HB.out | apply below_alloc | apply pw_below_drewN | apply below_drew1 | refine below_set ?_ GE420.out | refine below_set ?_ GE428.out) | exact HB.out)) hb); clear HO412; clear HO415; clear HO423; clear HO431; clear HO434; clear BK420; clear BK428; clear HB; have HO412 := n0_; have HO415 := n1_; have HO423 := n2_; have HO431 := n3_; have HO434 := n4_; have BK420 := n5_; have BK428 := n6_; have HB := n7_; clear n0_ n1_ n2_ n3_ n4_ n5_ n6_ n7_; (try clear hb); (try clear hb2); (try clear hk); (try clear hi))))
              go_meet
              case rel => exact ⟨_, (true), (by first | rfl | (simp; done) | (simp [*]; done) | (simp [wrap64]; done)), H', ⟨by first | omega | exact Nat.le_refl _⟩, ⟨by (with_reducible repeat (first | apply Kd.R_alloc | apply Kd.R_drewN | apply Kd.R_drew)); exact Kd.R_mono HO412.out (fun _ hk => ⟨hk.1.2, hk.2⟩)⟩, ⟨by (with_reducible repeat (first | apply Kd.R_alloc | apply Kd.R_drewN | apply Kd.R_drew)); exact Kd.R_mono HO431.out (fun _ hk => hk.2)⟩, ⟨by (with_reducible repeat (first | apply Kd.R_alloc | apply Kd.R_drewN | apply Kd.R_drew)); exact Kd.R_mono HO434.out (fun _ hk => hk.2)⟩, ⟨by (with_reducible repeat (first | apply Kd.R_alloc | apply Kd.R_drewN | apply Kd.R_drew)); exact Kd.R_mono HO415.out (fun _ hk => ⟨hk.1.2, hk.2⟩)⟩, ⟨by (with_reducible repeat (first | apply Kd.R_alloc | apply Kd.R_drewN | apply Kd.R_drew)); exact Kd.R_mono HO423.out (fun _ hk => ⟨hk.1.2, hk.2⟩)⟩, ⟨by (with_reducible repeat (first | refine blk_drewN ?_ _ | refine blk_drew ?_ | refine blk_alloc ?_ _)); exact BK420.out⟩, ⟨by (with_reducible repeat (first | refine blk_drewN ?_ _ | refine blk_drew ?_ | refine blk_alloc ?_ _)); exact BK428.out⟩, ⟨by repeat (first | (with_reducible first | exact HB.out | apply below_alloc | apply pw_below_drewN | apply below_drew1 | refine below_set ?_ GE420.out | refine below_set ?_ GE428.out) | exact HB.out)⟩⟩
          · replace c30 := Bool.eq_false_iff.mpr c30
            subst c30
            have H1 : (keystonelaw2_DescMakes.j0 k l1 y410 t429 t432 true) = some r := by rw [if_neg (show ¬ (false = true) by decide)] at H; exact H
            clear H
            have H := H1
            clear H1
            have H' := Aside0.mk H
            clear H
            have hnb42 := NB420_428.out
            have hnc42 := NB428_420.out
            have hcz43_0 : w28.cell? ⟨gb420, 0, none⟩ = some (.slice Ao20 t413.length co20) := (blk_cell BK420.out 0).trans rfl
            have hcz43_1 : w28.cell? ⟨gb420, 1, none⟩ = some (.bool t416) := (blk_cell BK420.out 1).trans rfl
            have hcz43_2 : w28.cell? ⟨gb420, 2, none⟩ = some (.int .i64 t417) := (blk_cell BK420.out 2).trans rfl
            have hcz43_3 : w28.cell? ⟨gb420, 3, none⟩ = some (.string t418) := (blk_cell BK420.out 3).trans rfl
            have hfz43_0 := blk_frozen BK420.out 0
            have hfz43_1 := blk_frozen BK420.out 1
            have hfz43_2 := blk_frozen BK420.out 2
            have hfz43_3 := blk_frozen BK420.out 3
            have hcz44_0 : w28.cell? ⟨gb428, 0, none⟩ = some (.slice Ao24 t421.length co24) := (blk_cell BK428.out 0).trans rfl
            have hcz44_1 : w28.cell? ⟨gb428, 1, none⟩ = some (.bool t424) := (blk_cell BK428.out 1).trans rfl
            have hcz44_2 : w28.cell? ⟨gb428, 2, none⟩ = some (.int .i64 t425) := (blk_cell BK428.out 2).trans rfl
            have hcz44_3 : w28.cell? ⟨gb428, 3, none⟩ = some (.string t426) := (blk_cell BK428.out 3).trans rfl
            have hfz44_0 := blk_frozen BK428.out 0
            have hfz44_1 := blk_frozen BK428.out 1
            have hfz44_2 := blk_frozen BK428.out 2
            have hfz44_3 := blk_frozen BK428.out 3
            go_wp2_with (first | (go_at_call 40; (with_reducible refine (keystoneref2_Same.calls k _ _ t413 t416 t417 t418 _ _ t421 t424 t425 t426 false _ ?side1 ?side2 ?side3 ?side4 A29.out).mono ?_); (case side1 => repeat (first | exact (Kd.R_reads' HO415.out).2.2 | (with_reducible refine Kd.C_alloc ?_ _) | (with_reducible refine Kd.C_drewN ?_ _) | (with_reducible refine Kd.C_drew ?_))); (case side2 => exact (Kd.R_reads' HO415.out).2.1); (case side3 => repeat (first | exact (Kd.R_reads' HO423.out).2.2 | (with_reducible refine Kd.C_alloc ?_ _) | (with_reducible refine Kd.C_drewN ?_ _) | (with_reducible refine Kd.C_drew ?_))); (case side4 => exact (Kd.R_reads' HO423.out).2.1); rintro e w45 ⟨rfl, hb⟩; have n0_ := Aside0.mk (Kd.R_below (by (with_reducible repeat (first | apply Kd.R_alloc | apply Kd.R_drewN | apply Kd.R_drew)); exact HO412.out) hb); have n1_ := Aside0.mk (Kd.R_below (by (with_reducible repeat (first | apply Kd.R_alloc | apply Kd.R_drewN | apply Kd.R_drew)); exact HO415.out) hb); have n2_ := Aside0.mk (Kd.R_below (by (with_reducible repeat (first | apply Kd.R_alloc | apply Kd.R_drewN | apply Kd.R_drew)); exact HO423.out) hb); have n3_ := Aside0.mk (Kd.R_below (by (with_reducible repeat (first | apply Kd.R_alloc | apply Kd.R_drewN | apply Kd.R_drew)); exact HO431.out) hb); have n4_ := Aside0.mk (Kd.R_below (by (with_reducible repeat (first | apply Kd.R_alloc | apply Kd.R_drewN | apply Kd.R_drew)); exact HO434.out) hb); have n5_ := Aside0.mk (blk_below (g := gb420) (o := .cells #[.slice Ao20 t413.length co20, .bool t416, .int .i64 t417, .string t418] 32 (0, 0)) (by (with_reducible repeat (first | refine blk_drewN ?_ _ | refine blk_drew ?_ | refine blk_alloc ?_ _)); exact BK420.out) hb); have n6_ := Aside0.mk (blk_below (g := gb428) (o := .cells #[.slice Ao24 t421.length co24, .bool t424, .int .i64 t425, .string t426] 32 (0, 0)) (by (with_reducible repeat (first | refine blk_drewN ?_ _ | refine blk_drew ?_ | refine blk_alloc ?_ _)); exact BK428.out) hb); have n7_ := Aside0.mk (below_step (by repeat (first | (with_reducible first | exact HB.out | apply below_alloc | apply pw_below_drewN | apply below_drew1 | refine below_set ?_ GE420.out | refine below_set ?_ GE428.out) | exact HB.out)) hb); clear HO412; clear HO415; clear HO423; clear HO431; clear HO434; clear BK420; clear BK428; clear HB; have HO412 := n0_; have HO415 := n1_; have HO423 := n2_; have HO431 := n3_; have HO434 := n4_; have BK420 := n5_; have BK428 := n6_; have HB := n7_; clear n0_ n1_ n2_ n3_ n4_ n5_ n6_ n7_; (try clear hb); (try clear hb2); (try clear hk); (try clear hi)))
            repeat (go_quiet (first | (go_at_call 40; (with_reducible refine (keystoneref2_Same.calls k _ _ t413 t416 t417 t418 _ _ t421 t424 t425 t426 false _ ?side1 ?side2 ?side3 ?side4 A29.out).mono ?_); (case side1 => repeat (first | exact (Kd.R_reads' HO415.out).2.2 | (with_reducible refine Kd.C_alloc ?_ _) | (with_reducible refine Kd.C_drewN ?_ _) | (with_reducible refine Kd.C_drew ?_))); (case side2 => exact (Kd.R_reads' HO415.out).2.1); (case side3 => repeat (first | exact (Kd.R_reads' HO423.out).2.2 | (with_reducible refine Kd.C_alloc ?_ _) | (with_reducible refine Kd.C_drewN ?_ _) | (with_reducible refine Kd.C_drew ?_))); (case side4 => exact (Kd.R_reads' HO423.out).2.1); rintro e w45 ⟨rfl, hb⟩; have n0_ := Aside0.mk (Kd.R_below (by (with_reducible repeat (first | apply Kd.R_alloc | apply Kd.R_drewN | apply Kd.R_drew)); exact HO412.out) hb); have n1_ := Aside0.mk (Kd.R_below (by (with_reducible repeat (first | apply Kd.R_alloc | apply Kd.R_drewN | apply Kd.R_drew)); exact HO415.out) hb); have n2_ := Aside0.mk (Kd.R_below (by (with_reducible repeat (first | apply Kd.R_alloc | apply Kd.R_drewN | apply Kd.R_drew)); exact HO423.out) hb); have n3_ := Aside0.mk (Kd.R_below (by (with_reducible repeat (first | apply Kd.R_alloc | apply Kd.R_drewN | apply Kd.R_drew)); exact HO431.out) hb); have n4_ := Aside0.mk (Kd.R_below (by (with_reducible repeat (first | apply Kd.R_alloc | apply Kd.R_drewN | apply Kd.R_drew)); exact HO434.out) hb); have n5_ := Aside0.mk (blk_below (g := gb420) (o := .cells #[.slice Ao20 t413.length co20, .bool t416, .int .i64 t417, .string t418] 32 (0, 0)) (by (with_reducible repeat (first | refine blk_drewN ?_ _ | refine blk_drew ?_ | refine blk_alloc ?_ _)); exact BK420.out) hb); have n6_ := Aside0.mk (blk_below (g := gb428) (o := .cells #[.slice Ao24 t421.length co24, .bool t424, .int .i64 t425, .string t426] 32 (0, 0)) (by (with_reducible repeat (first | refine blk_drewN ?_ _ | refine blk_drew ?_ | refine blk_alloc ?_ _)); exact BK428.out) hb); have n7_ := Aside0.mk (below_step (by repeat (first | (with_reducible first | exact HB.out | apply below_alloc | apply pw_below_drewN | apply below_drew1 | refine below_set ?_ GE420.out | refine below_set ?_ GE428.out) | exact HB.out)) hb); clear HO412; clear HO415; clear HO423; clear HO431; clear HO434; clear BK420; clear BK428; clear HB; have HO412 := n0_; have HO415 := n1_; have HO423 := n2_; have HO431 := n3_; have HO434 := n4_; have BK420 := n5_; have BK428 := n6_; have HB := n7_; clear n0_ n1_ n2_ n3_ n4_ n5_ n6_ n7_; (try clear hb); (try clear hb2); (try clear hk); (try clear hi))); try go_wp2_with (first | (go_at_call 40; (with_reducible refine (keystoneref2_Same.calls k _ _ t413 t416 t417 t418 _ _ t421 t424 t425 t426 false _ ?side1 ?side2 ?side3 ?side4 A29.out).mono ?_); (case side1 => repeat (first | exact (Kd.R_reads' HO415.out).2.2 | (with_reducible refine Kd.C_alloc ?_ _) | (with_reducible refine Kd.C_drewN ?_ _) | (with_reducible refine Kd.C_drew ?_))); (case side2 => exact (Kd.R_reads' HO415.out).2.1); (case side3 => repeat (first | exact (Kd.R_reads' HO423.out).2.2 | (with_reducible refine Kd.C_alloc ?_ _) | (with_reducible refine Kd.C_drewN ?_ _) | (with_reducible refine Kd.C_drew ?_))); (case side4 => exact (Kd.R_reads' HO423.out).2.1); rintro e w45 ⟨rfl, hb⟩; have n0_ := Aside0.mk (Kd.R_below (by (with_reducible repeat (first | apply Kd.R_alloc | apply Kd.R_drewN | apply Kd.R_drew)); exact HO412.out) hb); have n1_ := Aside0.mk (Kd.R_below (by (with_reducible repeat (first | apply Kd.R_alloc | apply Kd.R_drewN | apply Kd.R_drew)); exact HO415.out) hb); have n2_ := Aside0.mk (Kd.R_below (by (with_reducible repeat (first | apply Kd.R_alloc | apply Kd.R_drewN | apply Kd.R_drew)); exact HO423.out) hb); have n3_ := Aside0.mk (Kd.R_below (by (with_reducible repeat (first | apply Kd.R_alloc | apply Kd.R_drewN | apply Kd.R_drew)); exact HO431.out) hb); have n4_ := Aside0.mk (Kd.R_below (by (with_reducible repeat (first | apply Kd.R_alloc | apply Kd.R_drewN | apply Kd.R_drew)); exact HO434.out) hb); have n5_ := Aside0.mk (blk_below (g := gb420) (o := .cells #[.slice Ao20 t413.length co20, .bool t416, .int .i64 t417, .string t418] 32 (0, 0)) (by (with_reducible repeat (first | refine blk_drewN ?_ _ | refine blk_drew ?_ | refine blk_alloc ?_ _)); exact BK420.out) hb); have n6_ := Aside0.mk (blk_below (g := gb428) (o := .cells #[.slice Ao24 t421.length co24, .bool t424, .int .i64 t425, .string t426] 32 (0, 0)) (by (with_reducible repeat (first | refine blk_drewN ?_ _ | refine blk_drew ?_ | refine blk_alloc ?_ _)); exact BK428.out) hb); have n7_ := Aside0.mk (below_step (by repeat (first | (with_reducible first | exact HB.out | apply below_alloc | apply pw_below_drewN | apply below_drew1 | refine below_set ?_ GE420.out | refine below_set ?_ GE428.out) | exact HB.out)) hb); clear HO412; clear HO415; clear HO423; clear HO431; clear HO434; clear BK420; clear BK428; clear HB; have HO412 := n0_; have HO415 := n1_; have HO423 := n2_; have HO431 := n3_; have HO434 := n4_; have BK420 := n5_; have BK428 := n6_; have HB := n7_; clear n0_ n1_ n2_ n3_ n4_ n5_ n6_ n7_; (try clear hb); (try clear hb2); (try clear hk); (try clear hi))))
            go_meet
            case rel => exact ⟨_, (true), (by first | rfl | (simp; done) | (simp [*]; done) | (simp [wrap64]; done)), H', ⟨by first | omega | exact Nat.le_refl _⟩, ⟨by (with_reducible repeat (first | apply Kd.R_alloc | apply Kd.R_drewN | apply Kd.R_drew)); exact Kd.R_mono HO412.out (fun _ hk => ⟨hk.1.2, hk.2⟩)⟩, ⟨by (with_reducible repeat (first | apply Kd.R_alloc | apply Kd.R_drewN | apply Kd.R_drew)); exact Kd.R_mono HO431.out (fun _ hk => hk.2)⟩, ⟨by (with_reducible repeat (first | apply Kd.R_alloc | apply Kd.R_drewN | apply Kd.R_drew)); exact Kd.R_mono HO434.out (fun _ hk => hk.2)⟩, ⟨by (with_reducible repeat (first | apply Kd.R_alloc | apply Kd.R_drewN | apply Kd.R_drew)); exact Kd.R_mono HO415.out (fun _ hk => ⟨hk.1.2, hk.2⟩)⟩, ⟨by (with_reducible repeat (first | apply Kd.R_alloc | apply Kd.R_drewN | apply Kd.R_drew)); exact Kd.R_mono HO423.out (fun _ hk => ⟨hk.1.2, hk.2⟩)⟩, ⟨by (with_reducible repeat (first | refine blk_drewN ?_ _ | refine blk_drew ?_ | refine blk_alloc ?_ _)); exact BK420.out⟩, ⟨by (with_reducible repeat (first | refine blk_drewN ?_ _ | refine blk_drew ?_ | refine blk_alloc ?_ _)); exact BK428.out⟩, ⟨by repeat (first | (with_reducible first | exact HB.out | apply below_alloc | apply pw_below_drewN | apply below_drew1 | refine below_set ?_ GE420.out | refine below_set ?_ GE428.out) | exact HB.out)⟩⟩
        case rest =>
          clear HC12
          try clear c1
          try clear c2
          try clear p2
          try clear c3
          try clear c4
          try clear c5
          try clear c5b0
          try clear c5b1
          try clear c7
          try clear c12
          try clear c25
          try clear c30
          try clear c31
          try clear c31b0
          try clear c31b1
          try clear c32
          try clear c38
          try clear c42
          try clear hcz21_0
          try clear hcz21_1
          try clear hcz21_2
          try clear hcz21_3
          try clear hcz26_0
          try clear hcz26_1
          try clear hcz26_2
          try clear hcz26_3
          try clear hcz33_0
          try clear hcz33_1
          try clear hcz33_2
          try clear hcz33_3
          try clear hcz34_0
          try clear hcz34_1
          try clear hcz34_2
          try clear hcz34_3
          try clear hcz39_0
          try clear hcz39_1
          try clear hcz39_2
          try clear hcz39_3
          try clear hcz40_0
          try clear hcz40_1
          try clear hcz40_2
          try clear hcz40_3
          try clear hcz43_0
          try clear hcz43_1
          try clear hcz43_2
          try clear hcz43_3
          try clear hcz44_0
          try clear hcz44_1
          try clear hcz44_2
          try clear hcz44_3
          try clear hfz21_0
          try clear hfz21_1
          try clear hfz21_2
          try clear hfz21_3
          try clear hfz26_0
          try clear hfz26_1
          try clear hfz26_2
          try clear hfz26_3
          try clear hfz33_0
          try clear hfz33_1
          try clear hfz33_2
          try clear hfz33_3
          try clear hfz34_0
          try clear hfz34_1
          try clear hfz34_2
          try clear hfz34_3
          try clear hfz39_0
          try clear hfz39_1
          try clear hfz39_2
          try clear hfz39_3
          try clear hfz40_0
          try clear hfz40_1
          try clear hfz40_2
          try clear hfz40_3
          try clear hfz43_0
          try clear hfz43_1
          try clear hfz43_2
          try clear hfz43_3
          try clear hfz44_0
          try clear hfz44_1
          try clear hfz44_2
          try clear hfz44_3
          obtain ⟨kq, x53_11, rfl, HA, HJ11, HO_5, HO_10, HO_11, HO_421000, HO_429000, BK420, BK428, HB⟩ := hcut
          cases kq with
          | zero => exact absurd HA.out (by simp [keystonelaw2_DescMakes.j0])
          | succ kj11 =>
            have H := HA.out
            clear HA
            simp only [keystonelaw2_DescMakes.j0] at H
            by_cases c46 : x53_11 = true
            · subst c46
              have H1 : (some false) = some r := by rw [if_pos rfl] at H; exact H
              clear H
              have H := H1
              clear H1
              obtain rfl := Option.some.inj H
              exact absurd HT.out (by decide)
            · replace c46 := Bool.eq_false_iff.mpr c46
              subst c46
              have H1 : (keystonelaw2_DescMakes.l0 kj11 l1 y410 t429 t432 0) = some r := by rw [if_neg (show ¬ (false = true) by decide)] at H; exact H
              clear H
              have H := H1
              clear H1
              have H' := Aside0.mk H
              clear H
              go_wp2
              repeat (go_quiet (fail); try go_wp2)
              go_loopg [12] kj11 (fun kq v12 w' => ∃ (x12_2 : Int), v12 = .int .i64 x12_2 ∧ Aside0 (keystonelaw2_DescMakes.l0 kq l1 y410 t429 t432 x12_2 = some r) ∧ Aside0 (kq ≤ kj11) ∧ Aside0 (Kd.R k26 26 w' w.heap.size (fun k_ => some k_ ≠ ((.slice Ao20 t413.length co20) : Value).ownBlock ∧ some k_ ≠ ((.slice Ao24 t421.length co24) : Value).ownBlock) (.slice Ao17 y410.length co17) y410) ∧ Aside0 (Kd.R Kd.string 9 w' w.heap.size (fun k_ => some k_ ≠ (v433 : Value).ownBlock) v430 t429) ∧ Aside0 (Kd.R Kd.string 9 w' w.heap.size (fun k_ => some k_ ≠ (v430 : Value).ownBlock) v433 t432) ∧ Aside0 (Kd.R k26 26 w' w.heap.size (fun k_ => some k_ ≠ ((.slice Ao17 y410.length co17) : Value).ownBlock ∧ some k_ ≠ ((.slice Ao24 t421.length co24) : Value).ownBlock) (.slice Ao20 t413.length co20) t413) ∧ Aside0 (Kd.R k26 26 w' w.heap.size (fun k_ => some k_ ≠ ((.slice Ao17 y410.length co17) : Value).ownBlock ∧ some k_ ≠ ((.slice Ao20 t413.length co20) : Value).ownBlock) (.slice Ao24 t421.length co24) t421) ∧ Aside0 (w'.heap[gb420]? = some (.cells #[(.slice Ao20 t413.length co20), .bool t416, .int .i64 t417, .string t418] 32 (0, 0))) ∧ Aside0 (w'.heap[gb428]? = some (.cells #[(.slice Ao24 t421.length co24), .bool t424, .int .i64 t425, .string t426] 32 (0, 0))) ∧ Aside0 (Below w.heap.size w w'))
              case atStart => exact ⟨(0), (by first | rfl | (simp; done) | (simp [*]; done) | (simp [wrap64]; done)), H', ⟨Nat.le_refl _⟩, ⟨by (with_reducible repeat (first | apply Kd.R_alloc | apply Kd.R_drewN | apply Kd.R_drew)); exact HO_5.out⟩, ⟨by (with_reducible repeat (first | apply Kd.R_alloc | apply Kd.R_drewN | apply Kd.R_drew)); exact HO_10.out⟩, ⟨by (with_reducible repeat (first | apply Kd.R_alloc | apply Kd.R_drewN | apply Kd.R_drew)); exact HO_11.out⟩, ⟨by (with_reducible repeat (first | apply Kd.R_alloc | apply Kd.R_drewN | apply Kd.R_drew)); exact HO_421000.out⟩, ⟨by (with_reducible repeat (first | apply Kd.R_alloc | apply Kd.R_drewN | apply Kd.R_drew)); exact HO_429000.out⟩, ⟨by (with_reducible repeat (first | refine blk_drewN ?_ _ | refine blk_drew ?_ | refine blk_alloc ?_ _)); exact BK420.out⟩, ⟨by (with_reducible repeat (first | refine blk_drewN ?_ _ | refine blk_drew ?_ | refine blk_alloc ?_ _)); exact BK428.out⟩, ⟨by repeat (first | (with_reducible first | exact HB.out | apply below_alloc | apply pw_below_drewN | apply below_drew1 | refine below_set ?_ GE420.out | refine below_set ?_ GE428.out) | exact HB.out)⟩⟩
              case round =>
                clear H'
                try clear c1
                try clear c2
                try clear p2
                try clear c3
                try clear c4
                try clear c5
                try clear c5b0
                try clear c5b1
                try clear c7
                try clear c12
                try clear c25
                try clear c30
                try clear c31
                try clear c31b0
                try clear c31b1
                try clear c32
                try clear c38
                try clear c42
                try clear c46
                try clear hcz21_0
                try clear hcz21_1
                try clear hcz21_2
                try clear hcz21_3
                try clear hcz26_0
                try clear hcz26_1
                try clear hcz26_2
                try clear hcz26_3
                try clear hcz33_0
                try clear hcz33_1
                try clear hcz33_2
                try clear hcz33_3
                try clear hcz34_0
                try clear hcz34_1
                try clear hcz34_2
                try clear hcz34_3
                try clear hcz39_0
                try clear hcz39_1
                try clear hcz39_2
                try clear hcz39_3
                try clear hcz40_0
                try clear hcz40_1
                try clear hcz40_2
                try clear hcz40_3
                try clear hcz43_0
                try clear hcz43_1
                try clear hcz43_2
                try clear hcz43_3
                try clear hcz44_0
                try clear hcz44_1
                try clear hcz44_2
                try clear hcz44_3
                try clear hfz21_0
                try clear hfz21_1
                try clear hfz21_2
                try clear hfz21_3
                try clear hfz26_0
                try clear hfz26_1
                try clear hfz26_2
                try clear hfz26_3
                try clear hfz33_0
                try clear hfz33_1
                try clear hfz33_2
                try clear hfz33_3
                try clear hfz34_0
                try clear hfz34_1
                try clear hfz34_2
                try clear hfz34_3
                try clear hfz39_0
                try clear hfz39_1
                try clear hfz39_2
                try clear hfz39_3
                try clear hfz40_0
                try clear hfz40_1
                try clear hfz40_2
                try clear hfz40_3
                try clear hfz43_0
                try clear hfz43_1
                try clear hfz43_2
                try clear hfz43_3
                try clear hfz44_0
                try clear hfz44_1
                try clear hfz44_2
                try clear hfz44_3
                try clear p2
                obtain ⟨x12_2, rfl, HA, HK2, HO_5, HO_10, HO_11, HO_421000, HO_429000, BK420, BK428, HB⟩ := hrel
                cases gk with
                | zero => exact absurd HA.out (by simp [keystonelaw2_DescMakes.l0])
                | succ k2 =>
                  have H := HA.out
                  clear HA
                  simp only [keystonelaw2_DescMakes.l0] at H
                  by_cases c47 : x12_2 < (t429.length : Int)
                  · rw [if_pos c47] at H
                    have c47b0 : decide (x12_2 < (t429.length : Int)) = true := decide_eq_true c47
                    clear c47
                    by_cases c48 : 0 ≤ x12_2
                    · rw [if_pos c48] at H
                      have c48b0 : decide (0 ≤ x12_2) = true := decide_eq_true c48
                      clear c48
                      by_cases c49 : x12_2 < (t432.length : Int)
                      · rw [if_pos c49] at H
                        have c49b0 : decide (x12_2 < (t432.length : Int)) = true := decide_eq_true c49
                        clear c49
                        by_cases c50 : (rdOf ByteArray.empty t429 x12_2).toList = (rdOf ByteArray.empty t432 x12_2).toList
                        · rw [if_pos c50] at H
                          have c50b0 : ((rdOf ByteArray.empty t429 x12_2).toList == (rdOf ByteArray.empty t432 x12_2).toList) = true := beq_iff_eq.mpr c50
                          have c50b1 : ((rdOf ByteArray.empty t429 x12_2).toList != (rdOf ByteArray.empty t432 x12_2).toList) = false := bne_eq_false_iff_eq.mpr c50
                          clear c50
                          have H' := Aside0.mk H
                          clear H
                          obtain ⟨Ao51, co51, eo51⟩ := Kd.R_slice HO_10.out
                          subst eo51
                          have p436 : 0 ≤ (x12_2 : Int) := of_decide_eq_true (by first | (with_reducible assumption) | assumption)
                          have q436 : x12_2 < (t429.length : Int) := of_decide_eq_true (by first | (with_reducible assumption) | assumption)
                          obtain ⟨ad436, e436, hx436_0⟩ := Kd.at_string (Kd.R_reads' HO_10.out).2.2 x12_2 p436 q436
                          cases e436
                          replace p436 := eq_true p436
                          replace q436 := eq_true q436
                          obtain ⟨Ao52, co52, eo52⟩ := Kd.R_slice HO_11.out
                          subst eo52
                          have p437 : 0 ≤ (x12_2 : Int) := of_decide_eq_true (by first | (with_reducible assumption) | assumption)
                          have q437 : x12_2 < (t432.length : Int) := of_decide_eq_true (by first | (with_reducible assumption) | assumption)
                          obtain ⟨ad437, e437, hx437_0⟩ := Kd.at_string (Kd.R_reads' HO_11.out).2.2 x12_2 p437 q437
                          cases e437
                          replace p437 := eq_true p437
                          replace q437 := eq_true q437
                          go_wp2
                          repeat (go_quiet (fail); try go_wp2)
                          go_roundg k2
                          case measure => have := HJ11.out; have := HK2.out; omega
                          case rel => exact ⟨(wrap64 (x12_2 + 1)), (by first | rfl | (simp; done) | (simp [*]; done) | (simp [wrap64]; done)), H', ⟨by have := HJ11.out; have := HK2.out; omega⟩, ⟨by (with_reducible repeat (first | apply Kd.R_alloc | apply Kd.R_drewN | apply Kd.R_drew)); exact HO_5.out⟩, ⟨by (with_reducible repeat (first | apply Kd.R_alloc | apply Kd.R_drewN | apply Kd.R_drew)); exact HO_10.out⟩, ⟨by (with_reducible repeat (first | apply Kd.R_alloc | apply Kd.R_drewN | apply Kd.R_drew)); exact HO_11.out⟩, ⟨by (with_reducible repeat (first | apply Kd.R_alloc | apply Kd.R_drewN | apply Kd.R_drew)); exact HO_421000.out⟩, ⟨by (with_reducible repeat (first | apply Kd.R_alloc | apply Kd.R_drewN | apply Kd.R_drew)); exact HO_429000.out⟩, ⟨by (with_reducible repeat (first | refine blk_drewN ?_ _ | refine blk_drew ?_ | refine blk_alloc ?_ _)); exact BK420.out⟩, ⟨by (with_reducible repeat (first | refine blk_drewN ?_ _ | refine blk_drew ?_ | refine blk_alloc ?_ _)); exact BK428.out⟩, ⟨by repeat (first | (with_reducible first | exact HB.out | apply below_alloc | apply pw_below_drewN | apply below_drew1 | refine below_set ?_ GE420.out | refine below_set ?_ GE428.out) | exact HB.out)⟩⟩
                        · rw [if_neg c50] at H
                          have c50b0 : ((rdOf ByteArray.empty t429 x12_2).toList == (rdOf ByteArray.empty t432 x12_2).toList) = false := beq_eq_false_iff_ne.mpr c50
                          have c50b1 : ((rdOf ByteArray.empty t429 x12_2).toList != (rdOf ByteArray.empty t432 x12_2).toList) = true := bne_iff_ne.mpr c50
                          obtain rfl := Option.some.inj H
                          exact absurd HT.out (by decide)
                      · rw [if_neg c49] at H
                        exact absurd H (by simp)
                    · rw [if_neg c48] at H
                      exact absurd H (by simp)
                  · rw [if_neg c47] at H
                    have c47b0 : decide (x12_2 < (t429.length : Int)) = false := decide_eq_false c47
                    clear c47
                    have H' := Aside0.mk H
                    clear H
                    obtain ⟨Ao53, co53, eo53⟩ := Kd.R_slice HO_10.out
                    subst eo53
                    go_wp2
                    repeat (go_quiet (fail); try go_wp2)
                    go_loopg [13] k2 (fun kq v13 w' => ∃ (x13_3 : Int), v13 = .int .i64 x13_3 ∧ Aside0 (keystonelaw2_DescMakes.l1 kq l1 y410 x13_3 = some r) ∧ Aside0 (kq ≤ k2) ∧ Aside0 (Kd.R k26 26 w' w.heap.size (fun k_ => some k_ ≠ ((.slice Ao20 t413.length co20) : Value).ownBlock ∧ some k_ ≠ ((.slice Ao24 t421.length co24) : Value).ownBlock) (.slice Ao17 y410.length co17) y410) ∧ Aside0 (Kd.R k26 26 w' w.heap.size (fun k_ => some k_ ≠ ((.slice Ao17 y410.length co17) : Value).ownBlock ∧ some k_ ≠ ((.slice Ao24 t421.length co24) : Value).ownBlock) (.slice Ao20 t413.length co20) t413) ∧ Aside0 (Kd.R k26 26 w' w.heap.size (fun k_ => some k_ ≠ ((.slice Ao17 y410.length co17) : Value).ownBlock ∧ some k_ ≠ ((.slice Ao20 t413.length co20) : Value).ownBlock) (.slice Ao24 t421.length co24) t421) ∧ Aside0 (w'.heap[gb420]? = some (.cells #[(.slice Ao20 t413.length co20), .bool t416, .int .i64 t417, .string t418] 32 (0, 0))) ∧ Aside0 (w'.heap[gb428]? = some (.cells #[(.slice Ao24 t421.length co24), .bool t424, .int .i64 t425, .string t426] 32 (0, 0))) ∧ Aside0 (Below w.heap.size w w'))
                    case atStart => exact ⟨(0), (by first | rfl | (simp; done) | (simp [*]; done) | (simp [wrap64]; done)), H', ⟨Nat.le_refl _⟩, ⟨by (with_reducible repeat (first | apply Kd.R_alloc | apply Kd.R_drewN | apply Kd.R_drew)); exact HO_5.out⟩, ⟨by (with_reducible repeat (first | apply Kd.R_alloc | apply Kd.R_drewN | apply Kd.R_drew)); exact HO_421000.out⟩, ⟨by (with_reducible repeat (first | apply Kd.R_alloc | apply Kd.R_drewN | apply Kd.R_drew)); exact HO_429000.out⟩, ⟨by (with_reducible repeat (first | refine blk_drewN ?_ _ | refine blk_drew ?_ | refine blk_alloc ?_ _)); exact BK420.out⟩, ⟨by (with_reducible repeat (first | refine blk_drewN ?_ _ | refine blk_drew ?_ | refine blk_alloc ?_ _)); exact BK428.out⟩, ⟨by repeat (first | (with_reducible first | exact HB.out | apply below_alloc | apply pw_below_drewN | apply below_drew1 | refine below_set ?_ GE420.out | refine below_set ?_ GE428.out) | exact HB.out)⟩⟩
                    case round =>
                      clear H'
                      try clear c1
                      try clear c2
                      try clear p2
                      try clear c3
                      try clear c4
                      try clear p4
                      try clear q4
                      try clear hx4
                      try clear c5
                      try clear c5b0
                      try clear c5b1
                      try clear p6
                      try clear c7
                      try clear c12
                      try clear c25
                      try clear c30
                      try clear c31
                      try clear c31b0
                      try clear c31b1
                      try clear c32
                      try clear c38
                      try clear c42
                      try clear p43
                      try clear q43
                      try clear hx43
                      try clear c46
                      try clear c47
                      try clear c47b0
                      try clear c48
                      try clear c48b0
                      try clear c49
                      try clear c49b0
                      try clear c50
                      try clear c50b0
                      try clear c50b1
                      try clear hcz21_0
                      try clear hcz21_1
                      try clear hcz21_2
                      try clear hcz21_3
                      try clear hcz26_0
                      try clear hcz26_1
                      try clear hcz26_2
                      try clear hcz26_3
                      try clear hcz33_0
                      try clear hcz33_1
                      try clear hcz33_2
                      try clear hcz33_3
                      try clear hcz34_0
                      try clear hcz34_1
                      try clear hcz34_2
                      try clear hcz34_3
                      try clear hcz39_0
                      try clear hcz39_1
                      try clear hcz39_2
                      try clear hcz39_3
                      try clear hcz40_0
                      try clear hcz40_1
                      try clear hcz40_2
                      try clear hcz40_3
                      try clear hcz43_0
                      try clear hcz43_1
                      try clear hcz43_2
                      try clear hcz43_3
                      try clear hcz44_0
                      try clear hcz44_1
                      try clear hcz44_2
                      try clear hcz44_3
                      try clear hfz21_0
                      try clear hfz21_1
                      try clear hfz21_2
                      try clear hfz21_3
                      try clear hfz26_0
                      try clear hfz26_1
                      try clear hfz26_2
                      try clear hfz26_3
                      try clear hfz33_0
                      try clear hfz33_1
                      try clear hfz33_2
                      try clear hfz33_3
                      try clear hfz34_0
                      try clear hfz34_1
                      try clear hfz34_2
                      try clear hfz34_3
                      try clear hfz39_0
                      try clear hfz39_1
                      try clear hfz39_2
                      try clear hfz39_3
                      try clear hfz40_0
                      try clear hfz40_1
                      try clear hfz40_2
                      try clear hfz40_3
                      try clear hfz43_0
                      try clear hfz43_1
                      try clear hfz43_2
                      try clear hfz43_3
                      try clear hfz44_0
                      try clear hfz44_1
                      try clear hfz44_2
                      try clear hfz44_3
                      try clear hx436_0
                      try clear hx437_0
                      try clear p2
                      try clear p436
                      try clear p437
                      try clear q436
                      try clear q437
                      obtain ⟨x13_3, rfl, HA, HK3, HO_5, HO_421000, HO_429000, BK420, BK428, HB⟩ := hrel
                      cases gk with
                      | zero => exact absurd HA.out (by simp [keystonelaw2_DescMakes.l1])
                      | succ k3 =>
                        have H := HA.out
                        clear HA
                        simp only [keystonelaw2_DescMakes.l1] at H
                        by_cases c54 : x13_3 < (l1.length : Int)
                        · rw [if_pos c54] at H
                          have c54b0 : decide (x13_3 < (l1.length : Int)) = true := decide_eq_true c54
                          clear c54
                          by_cases c55 : 0 ≤ x13_3
                          · rw [if_pos c55] at H
                            have c55b0 : decide (0 ≤ x13_3) = true := decide_eq_true c55
                            clear c55
                            by_cases c56 : x13_3 < (y410.length : Int)
                            · rw [if_pos c56] at H
                              have c56b0 : decide (x13_3 < (y410.length : Int)) = true := decide_eq_true c56
                              clear c56
                              by_cases c57 : (!(((rd_T26 y410 x13_3).f0) == ((rd_T26 l1 x13_3).f0)) || (!((((rd_T26 y410 x13_3).f1).toList) == (((rd_T26 l1 x13_3).f1).toList)))) = true
                              · rw [if_pos c57] at H
                                have c57b0 : (!(((rd_T26 y410 x13_3).f0) == ((rd_T26 l1 x13_3).f0)) || (!((((rd_T26 y410 x13_3).f1).toList) == (((rd_T26 l1 x13_3).f1).toList)))) = true := c57
                                clear c57
                                obtain rfl := Option.some.inj H
                                exact absurd HT.out (by decide)
                              · rw [if_neg c57] at H
                                have c57b0 : (!(((rd_T26 y410 x13_3).f0) == ((rd_T26 l1 x13_3).f0)) || (!((((rd_T26 y410 x13_3).f1).toList) == (((rd_T26 l1 x13_3).f1).toList)))) = false := by simpa using c57
                                clear c57
                                have H' := Aside0.mk H
                                clear H
                                have p438 : 0 ≤ (x13_3 : Int) := of_decide_eq_true (by first | (with_reducible assumption) | assumption)
                                have q438 : x13_3 < (y410.length : Int) := of_decide_eq_true (by first | (with_reducible assumption) | assumption)
                                obtain ⟨ad438, e438, hx438_0, hx438_1⟩ := at_T26 (Kd.R_reads' HO_5.out).2.2 x13_3 p438 q438
                                cases e438
                                replace p438 := eq_true p438
                                replace q438 := eq_true q438
                                have p439 : 0 ≤ (x13_3 : Int) := of_decide_eq_true (by first | (with_reducible assumption) | assumption)
                                have q439 : x13_3 < (l1.length : Int) := of_decide_eq_true (by first | (with_reducible assumption) | assumption)
                                obtain ⟨ad439, e439, hx439_0, hx439_1⟩ := at_T26 HR1.out x13_3 p439 q439
                                cases e439
                                replace hx439_0 := (HB.out.cell (World.block_lt_of_cell? w _ hx439_0)).trans hx439_0
                                replace hx439_1 := (HB.out.cell (World.block_lt_of_cell? w _ hx439_1)).trans hx439_1
                                replace p439 := eq_true p439
                                replace q439 := eq_true q439
                                go_wp2
                                repeat (go_quiet (fail); try go_wp2)
                                go_roundg k3
                                case measure => have := HJ11.out; have := HK2.out; have := HK3.out; omega
                                case rel => exact ⟨(wrap64 (x13_3 + 1)), (by first | rfl | (simp; done) | (simp [*]; done) | (simp [wrap64]; done)), H', ⟨by have := HJ11.out; have := HK2.out; have := HK3.out; omega⟩, ⟨by (with_reducible repeat (first | apply Kd.R_alloc | apply Kd.R_drewN | apply Kd.R_drew)); exact HO_5.out⟩, ⟨by (with_reducible repeat (first | apply Kd.R_alloc | apply Kd.R_drewN | apply Kd.R_drew)); exact HO_421000.out⟩, ⟨by (with_reducible repeat (first | apply Kd.R_alloc | apply Kd.R_drewN | apply Kd.R_drew)); exact HO_429000.out⟩, ⟨by (with_reducible repeat (first | refine blk_drewN ?_ _ | refine blk_drew ?_ | refine blk_alloc ?_ _)); exact BK420.out⟩, ⟨by (with_reducible repeat (first | refine blk_drewN ?_ _ | refine blk_drew ?_ | refine blk_alloc ?_ _)); exact BK428.out⟩, ⟨by repeat (first | (with_reducible first | exact HB.out | apply below_alloc | apply pw_below_drewN | apply below_drew1 | refine below_set ?_ GE420.out | refine below_set ?_ GE428.out) | exact HB.out)⟩⟩
                            · rw [if_neg c56] at H
                              exact absurd H (by simp)
                          · rw [if_neg c55] at H
                            exact absurd H (by simp)
                        · rw [if_neg c54] at H
                          have c54b0 : decide (x13_3 < (l1.length : Int)) = false := decide_eq_false c54
                          clear c54
                          obtain rfl := Option.some.inj H
                          go_wp2
                          repeat (go_quiet (fail); try go_wp2)
                          go_ret
                          exact ⟨by first | rfl | (simp [errW_none, errW_some] <;> rfl) | (simp [*, errW_none, errW_some] <;> rfl), by repeat (first | (with_reducible first | exact HB.out | apply below_alloc | apply pw_below_drewN | apply below_drew1 | refine below_set ?_ GE420.out | refine below_set ?_ GE428.out) | exact HB.out)⟩
      · rw [if_neg c7] at H
        exact absurd H (by simp)
  · replace c4 := Bool.eq_false_iff.mpr c4
    subst c4
    have H1 : (some false) = some r := by rw [if_neg (show ¬ (false = true) by decide)] at H; exact H
    clear H
    have H := H1
    clear H1
    obtain rfl := Option.some.inj H
    exact absurd HT.out (by decide)

end Go.Proofs.YtlajkmnmooilmaaDoor.P
