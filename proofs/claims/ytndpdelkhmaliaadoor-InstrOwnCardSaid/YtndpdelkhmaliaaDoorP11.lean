-- Written by my program xprint.py (a patched run of the kit's print). Lean checks it.
import Derived.Test.YtndpdelkhmaliaaDoorP0
import Derived.Test.YtndpdelkhmaliaaDoorP2
import Derived.Test.YtndpdelkhmaliaaDoorP3
import Derived.Test.YtndpdelkhmaliaaDoorP4
import Derived.Test.YtndpdelkhmaliaaDoorP7
import Derived.Test.YtndpdelkhmaliaaDoorExt
namespace Go.Proofs.YtndpdelkhmaliaaDoor.P
open Go.RowKit Go.Proofs.YtndpdelkhmaliaaDoorW.PrintWords Go.Proofs.YtndpdelkhmaliaaDoorW.PrintLast Go.Proofs.YtndpdelkhmaliaaDoorW.PrintMore
attribute [local go_sem] max2_int min2_int max_two min_two max_three min_three max_four min_four   -- for this text's walks alone
set_option linter.unusedVariables false
set_option linter.unusedSimpArgs false

/-! ### keystonelaw4_InstrOwn: function 9 -/
mutual
def keystonelaw4_InstrOwn.l0 : Nat → List (S38) → List (S38) → List (S38) → Int → Option (Bool)
  | 0, _, _, _, _ => none
  | k + 1, x4, x7, x10, x11 => if x11 < (x4.length : Int) then (if 0 ≤ x11 then (keystonelaw4_InstrOwn.l0 k (x4.set (x11 : Int).toNat (⟨0, 99, 0, 0⟩ : S38)) x7 x10 (wrap64 (x11 + 1))) else (none)) else (keystonelaw4_InstrOwn.l1 k x4 x7 x10 0)
def keystonelaw4_InstrOwn.l1 : Nat → List (S38) → List (S38) → List (S38) → Int → Option (Bool)
  | 0, _, _, _, _ => none
  | k + 1, x4, x7, x10, x12 => if x12 < 20 then (if x4.length < 4398046511104 then (keystonelaw4_InstrOwn.l1 k (x4 ++ [(⟨0, 98, 0, 0⟩ : S38)]) x7 x10 (wrap64 (x12 + 1))) else (none)) else ((instr_Encode.f k x7).bind fun bt397 => ((instr_Encode.f k x7).bind fun bt401 => (keystonelaw4_InstrOwn.l2 k x7 x10 bt397.1 bt397.2 bt401.1 bt401.2 0)))
def keystonelaw4_InstrOwn.l2 : Nat → List (S38) → List (S38) → List Int → Int → List Int → Int → Int → Option (Bool)
  | 0, _, _, _, _, _, _, _ => none
  | k + 1, x7, x10, x13, x14, x15, x16, x17 => if x17 < (x13.length : Int) then (if 0 ≤ x17 then (keystonelaw4_InstrOwn.l2 k x7 x10 (x13.set (x17 : Int).toNat 77) x14 x15 x16 (wrap64 (x17 + 1))) else (none)) else (keystonelaw4_InstrOwn.l3 k x7 x10 x13 x14 x15 x16 0)
def keystonelaw4_InstrOwn.l3 : Nat → List (S38) → List (S38) → List Int → Int → List Int → Int → Int → Option (Bool)
  | 0, _, _, _, _, _, _, _ => none
  | k + 1, x7, x10, x13, x14, x15, x16, x18 => if x18 < 20 then (if x13.length < 140737488355328 then (keystonelaw4_InstrOwn.l3 k x7 x10 (x13 ++ [78]) x14 x15 x16 (wrap64 (x18 + 1))) else (none)) else ((instr_Encode.f k x10).bind fun bt409 => ((keystonelaw4_Same.f k x7 x10).bind fun t413 => (if t413 = true then (if x14 = x16 then (if x16 = bt409.2 then (some ((strOfNums x15).toList == (strOfNums bt409.1).toList)) else (some false)) else (some false)) else (some false))))
end
def keystonelaw4_InstrOwn.f (k : Nat) (l0 : List Int) : Option (Bool) := (keystonelaw4_known.f k).bind fun t370 => (if t370 = true then (if (l0.length : Int) > 5000 then (some true) else ((some (([] : List Int) : List Int)).bind fun y371 => (if y371.length + l0.length < 140737488355328 then ((some (y371 ++ l0 : List Int)).bind fun y374 => ((instr_All.f k y374).bind fun bt377 => ((instr_All.f k y374).bind fun bt382 => ((some (([] : List (S38)) : List (S38))).bind fun y387 => (if y387.length + bt382.1.length < 4398046511104 then (keystonelaw4_InstrOwn.l0 k bt377.1 bt382.1 (y387 ++ bt382.1) 0) else (none)))))) else (none)))) else (some false))
theorem keystonelaw4_InstrOwn.mono_l : ∀ k, (∀ y0 y1 y2 y3, LeO (keystonelaw4_InstrOwn.l0 k y0 y1 y2 y3) (keystonelaw4_InstrOwn.l0 (k + 1) y0 y1 y2 y3)) ∧ (∀ y0 y1 y2 y3, LeO (keystonelaw4_InstrOwn.l1 k y0 y1 y2 y3) (keystonelaw4_InstrOwn.l1 (k + 1) y0 y1 y2 y3)) ∧ (∀ y0 y1 y2 y3 y4 y5 y6, LeO (keystonelaw4_InstrOwn.l2 k y0 y1 y2 y3 y4 y5 y6) (keystonelaw4_InstrOwn.l2 (k + 1) y0 y1 y2 y3 y4 y5 y6)) ∧ (∀ y0 y1 y2 y3 y4 y5 y6, LeO (keystonelaw4_InstrOwn.l3 k y0 y1 y2 y3 y4 y5 y6) (keystonelaw4_InstrOwn.l3 (k + 1) y0 y1 y2 y3 y4 y5 y6))
  | 0 => ⟨fun _ _ _ _ r h => by simp [keystonelaw4_InstrOwn.l0] at h, fun _ _ _ _ r h => by simp [keystonelaw4_InstrOwn.l1] at h, fun _ _ _ _ _ _ _ r h => by simp [keystonelaw4_InstrOwn.l2] at h, fun _ _ _ _ _ _ _ r h => by simp [keystonelaw4_InstrOwn.l3] at h⟩
  | k + 1 => by
    obtain ⟨ih0, ih1, ih2, ih3⟩ := keystonelaw4_InstrOwn.mono_l k
    refine ⟨?_, ?_, ?_, ?_⟩
    · intro y0 y1 y2 y3
      unfold keystonelaw4_InstrOwn.l0
      repeat' first
      | (with_reducible exact ih0 _ _ _ _)
      | (with_reducible exact ih1 _ _ _ _)
      | (with_reducible exact ih2 _ _ _ _ _ _ _)
      | (with_reducible exact ih3 _ _ _ _ _ _ _)
      | (with_reducible exact instr_All.mono _ _)
      | (with_reducible exact instr_Encode.mono _ _)
      | (with_reducible exact keystonelaw4_Same.mono _ _ _)
      | (with_reducible exact keystonelaw4_known.mono _)
      | (with_reducible exact LeO.refl _)
      | (with_reducible exact LeO.none _)
      | (with_reducible refine LeO.ite ?_ ?_)
      | (with_reducible refine LeO.bind ?_ (fun _ => ?_))
      | exact ih0 _ _ _ _
      | exact ih1 _ _ _ _
      | exact ih2 _ _ _ _ _ _ _
      | exact ih3 _ _ _ _ _ _ _
      | exact instr_All.mono _ _
      | exact instr_Encode.mono _ _
      | exact keystonelaw4_Same.mono _ _ _
      | exact keystonelaw4_known.mono _
      | exact LeO.none _
      | refine LeO.ite ?_ ?_
      | refine LeO.bind ?_ (fun _ => ?_)
    · intro y0 y1 y2 y3
      unfold keystonelaw4_InstrOwn.l1
      repeat' first
      | (with_reducible exact ih0 _ _ _ _)
      | (with_reducible exact ih1 _ _ _ _)
      | (with_reducible exact ih2 _ _ _ _ _ _ _)
      | (with_reducible exact ih3 _ _ _ _ _ _ _)
      | (with_reducible exact instr_All.mono _ _)
      | (with_reducible exact instr_Encode.mono _ _)
      | (with_reducible exact keystonelaw4_Same.mono _ _ _)
      | (with_reducible exact keystonelaw4_known.mono _)
      | (with_reducible exact LeO.refl _)
      | (with_reducible exact LeO.none _)
      | (with_reducible refine LeO.ite ?_ ?_)
      | (with_reducible refine LeO.bind ?_ (fun _ => ?_))
      | exact ih0 _ _ _ _
      | exact ih1 _ _ _ _
      | exact ih2 _ _ _ _ _ _ _
      | exact ih3 _ _ _ _ _ _ _
      | exact instr_All.mono _ _
      | exact instr_Encode.mono _ _
      | exact keystonelaw4_Same.mono _ _ _
      | exact keystonelaw4_known.mono _
      | exact LeO.none _
      | refine LeO.ite ?_ ?_
      | refine LeO.bind ?_ (fun _ => ?_)
    · intro y0 y1 y2 y3 y4 y5 y6
      unfold keystonelaw4_InstrOwn.l2
      repeat' first
      | (with_reducible exact ih0 _ _ _ _)
      | (with_reducible exact ih1 _ _ _ _)
      | (with_reducible exact ih2 _ _ _ _ _ _ _)
      | (with_reducible exact ih3 _ _ _ _ _ _ _)
      | (with_reducible exact instr_All.mono _ _)
      | (with_reducible exact instr_Encode.mono _ _)
      | (with_reducible exact keystonelaw4_Same.mono _ _ _)
      | (with_reducible exact keystonelaw4_known.mono _)
      | (with_reducible exact LeO.refl _)
      | (with_reducible exact LeO.none _)
      | (with_reducible refine LeO.ite ?_ ?_)
      | (with_reducible refine LeO.bind ?_ (fun _ => ?_))
      | exact ih0 _ _ _ _
      | exact ih1 _ _ _ _
      | exact ih2 _ _ _ _ _ _ _
      | exact ih3 _ _ _ _ _ _ _
      | exact instr_All.mono _ _
      | exact instr_Encode.mono _ _
      | exact keystonelaw4_Same.mono _ _ _
      | exact keystonelaw4_known.mono _
      | exact LeO.none _
      | refine LeO.ite ?_ ?_
      | refine LeO.bind ?_ (fun _ => ?_)
    · intro y0 y1 y2 y3 y4 y5 y6
      unfold keystonelaw4_InstrOwn.l3
      repeat' first
      | (with_reducible exact ih0 _ _ _ _)
      | (with_reducible exact ih1 _ _ _ _)
      | (with_reducible exact ih2 _ _ _ _ _ _ _)
      | (with_reducible exact ih3 _ _ _ _ _ _ _)
      | (with_reducible exact instr_All.mono _ _)
      | (with_reducible exact instr_Encode.mono _ _)
      | (with_reducible exact keystonelaw4_Same.mono _ _ _)
      | (with_reducible exact keystonelaw4_known.mono _)
      | (with_reducible exact LeO.refl _)
      | (with_reducible exact LeO.none _)
      | (with_reducible refine LeO.ite ?_ ?_)
      | (with_reducible refine LeO.bind ?_ (fun _ => ?_))
      | exact ih0 _ _ _ _
      | exact ih1 _ _ _ _
      | exact ih2 _ _ _ _ _ _ _
      | exact ih3 _ _ _ _ _ _ _
      | exact instr_All.mono _ _
      | exact instr_Encode.mono _ _
      | exact keystonelaw4_Same.mono _ _ _
      | exact keystonelaw4_known.mono _
      | exact LeO.none _
      | refine LeO.ite ?_ ?_
      | refine LeO.bind ?_ (fun _ => ?_)
theorem keystonelaw4_InstrOwn.mono : ∀ a0 k, LeO (keystonelaw4_InstrOwn.f k a0) (keystonelaw4_InstrOwn.f (k + 1) a0) := by
  intro a0 k
  obtain ⟨ih0, ih1, ih2, ih3⟩ := keystonelaw4_InstrOwn.mono_l k
  unfold keystonelaw4_InstrOwn.f
  repeat' first
      | (with_reducible exact ih0 _ _ _ _)
      | (with_reducible exact ih1 _ _ _ _)
      | (with_reducible exact ih2 _ _ _ _ _ _ _)
      | (with_reducible exact ih3 _ _ _ _ _ _ _)
      | (with_reducible exact instr_All.mono _ _)
      | (with_reducible exact instr_Encode.mono _ _)
      | (with_reducible exact keystonelaw4_Same.mono _ _ _)
      | (with_reducible exact keystonelaw4_known.mono _)
      | (with_reducible exact LeO.refl _)
      | (with_reducible exact LeO.none _)
      | (with_reducible refine LeO.ite ?_ ?_)
      | (with_reducible refine LeO.bind ?_ (fun _ => ?_))
      | exact ih0 _ _ _ _
      | exact ih1 _ _ _ _
      | exact ih2 _ _ _ _ _ _ _
      | exact ih3 _ _ _ _ _ _ _
      | exact instr_All.mono _ _
      | exact instr_Encode.mono _ _
      | exact keystonelaw4_Same.mono _ _ _
      | exact keystonelaw4_known.mono _
      | exact LeO.none _
      | refine LeO.ite ?_ ?_
      | refine LeO.bind ?_ (fun _ => ?_)
set_option maxHeartbeats 8000000 in
set_option maxRecDepth 100000 in
theorem keystonelaw4_InstrOwn.calls (k : Nat) (A0 : Option Addr) (c0 : Nat) (l0 : List Int) (r : Bool) (w : World) (hr0 : Kd.C (Kd.int .u8) w A0 l0.length l0) (hc0 : l0.length ≤ c0) (hG : Glob w) (hT : r = true) (h : keystonelaw4_InstrOwn.f k l0 = some r) :
    Calls Tryd.prog 9 #[.slice A0 l0.length c0] w fun e w' => e = .returned (.bool r) ∧ Below w.heap.size w w' := by
  have hu38 := Tryd.underlying38
  have HR0 := Aside0.mk hr0
  have HC0 := Aside0.mk hc0
  clear hr0 hc0
  have HB := Aside0.mk (Below.refl w.heap.size w)
  have H : ((keystonelaw4_known.f k).bind fun t370 => (if t370 = true then (if (l0.length : Int) > 5000 then (some true) else ((some (([] : List Int) : List Int)).bind fun y371 => (if y371.length + l0.length < 140737488355328 then ((some (y371 ++ l0 : List Int)).bind fun y374 => ((instr_All.f k y374).bind fun bt377 => ((instr_All.f k y374).bind fun bt382 => ((some (([] : List (S38)) : List (S38))).bind fun y387 => (if y387.length + bt382.1.length < 4398046511104 then (keystonelaw4_InstrOwn.l0 k bt377.1 bt382.1 (y387 ++ bt382.1) 0) else (none)))))) else (none)))) else (some false))) = some r := h
  clear h
  have HG := Aside0.mk hG
  clear hG
  have HT := Aside0.mk hT
  clear hT
  replace H := Option.bind_eq_some_iff.mp H
  obtain ⟨t370, A20, H⟩ := H
  replace H : (if t370 = true then (if (l0.length : Int) > 5000 then (some true) else ((some (([] : List Int) : List Int)).bind fun y371 => (if y371.length + l0.length < 140737488355328 then ((some (y371 ++ l0 : List Int)).bind fun y374 => ((instr_All.f k y374).bind fun bt377 => ((instr_All.f k y374).bind fun bt382 => ((some (([] : List (S38)) : List (S38))).bind fun y387 => (if y387.length + bt382.1.length < 4398046511104 then (keystonelaw4_InstrOwn.l0 k bt377.1 bt382.1 (y387 ++ bt382.1) 0) else (none)))))) else (none)))) else (some false)) = some r := H
  have A2 := Aside0.mk A20
  clear A20
  by_cases c3 : t370 = true
  · subst c3
    have H1 : (if (l0.length : Int) > 5000 then (some true) else ((some (([] : List Int) : List Int)).bind fun y371 => (if y371.length + l0.length < 140737488355328 then ((some (y371 ++ l0 : List Int)).bind fun y374 => ((instr_All.f k y374).bind fun bt377 => ((instr_All.f k y374).bind fun bt382 => ((some (([] : List (S38)) : List (S38))).bind fun y387 => (if y387.length + bt382.1.length < 4398046511104 then (keystonelaw4_InstrOwn.l0 k bt377.1 bt382.1 (y387 ++ bt382.1) 0) else (none)))))) else (none)))) = some r := by rw [if_pos rfl] at H; exact H
    clear H
    have H := H1
    clear H1
    by_cases c4 : (l0.length : Int) > 5000
    · rw [if_pos c4] at H
      have c4b0 : decide (5000 < (l0.length : Int)) = true := decide_eq_true c4
      have c4b1 : decide (5000 < l0.length) = true := decide_eq_true (by omega)
      clear c4
      obtain rfl := Option.some.inj H
      go_enter Tryd.func9, Tryd.ntmps9
      go_wp2_with (first | ((with_reducible refine gate_callee (f := 10) rfl ?_); refine goesL_ (some 21) rfl rfl Tryd.func10 (by kernel_rfl) rfl #[] rfl (by (try simp only [List.map_toArray, List.map_cons, List.map_nil]); first | done | rfl | (simp only [List.length_drop, List.length_take]; rfl)) ?_; (with_reducible refine (keystonelaw4_known.calls k  true _ ?side1 A2.out).mono ?_); (case side1 => exact HG.out.below (by repeat (first | (with_reducible first | exact HB.out | apply below_alloc | apply pw_below_drewN | apply below_drew1) | exact HB.out))); rintro e w5 ⟨rfl, hb⟩; refine ⟨_, rfl, ?_⟩; have n0_ := Aside0.mk (below_step (by repeat (first | (with_reducible first | exact HB.out | apply below_alloc | apply pw_below_drewN | apply below_drew1) | exact HB.out)) hb); clear HB; have HB := n0_; clear n0_; (try clear hb); (try clear hb2); (try clear hk); (try clear hi)))
      go_ret
      exact ⟨by first | rfl | (simp [errW_none, errW_some] <;> rfl) | (simp [*, errW_none, errW_some] <;> rfl), by repeat (first | (with_reducible first | exact HB.out | apply below_alloc | apply pw_below_drewN | apply below_drew1) | exact HB.out)⟩
    · rw [if_neg c4] at H
      have c4b0 : decide (5000 < (l0.length : Int)) = false := decide_eq_false c4
      have c4b1 : decide (5000 < l0.length) = false := decide_eq_false (by omega)
      clear c4
      obtain ⟨y371, hy371⟩ : ∃ y_ : List Int, y_ = (([] : List Int)) := ⟨_, rfl⟩
      replace H : (if y371.length + l0.length < 140737488355328 then ((some (y371 ++ l0 : List Int)).bind fun y374 => ((instr_All.f k y374).bind fun bt377 => ((instr_All.f k y374).bind fun bt382 => ((some (([] : List (S38)) : List (S38))).bind fun y387 => (if y387.length + bt382.1.length < 4398046511104 then (keystonelaw4_InstrOwn.l0 k bt377.1 bt382.1 (y387 ++ bt382.1) 0) else (none)))))) else (none)) = some r := by first | (rw [hy371]; with_reducible exact H) | (have H2_ := (Option.bind_some _ _).symm.trans H; rw [hy371]; with_reducible exact H2_) | (have H2_ := (Option.bind_some _ _).symm.trans H; with_reducible exact H2_) | with_reducible exact H | (rw [hy371]; exact H) | exact H
      have Ny371 := Aside0.mk hy371
      clear hy371
      by_cases c6 : y371.length + l0.length < 140737488355328
      · rw [if_pos c6] at H
        have LMc6 := Aside0.mk c6
        clear c6
        obtain ⟨y374, hy374⟩ : ∃ y_ : List Int, y_ = (y371 ++ l0) := ⟨_, rfl⟩
        replace H : ((instr_All.f k y374).bind fun bt377 => ((instr_All.f k y374).bind fun bt382 => ((some (([] : List (S38)) : List (S38))).bind fun y387 => (if y387.length + bt382.1.length < 4398046511104 then (keystonelaw4_InstrOwn.l0 k bt377.1 bt382.1 (y387 ++ bt382.1) 0) else (none))))) = some r := by first | (rw [hy374]; with_reducible exact H) | (have H2_ := (Option.bind_some _ _).symm.trans H; rw [hy374]; with_reducible exact H2_) | (have H2_ := (Option.bind_some _ _).symm.trans H; with_reducible exact H2_) | with_reducible exact H | (rw [hy374]; exact H) | exact H
        have Ny374 := Aside0.mk hy374
        clear hy374
        replace H := Option.bind_eq_some_iff.mp H
        obtain ⟨⟨t377, t378, t379⟩, A70, H⟩ := H
        replace H : ((instr_All.f k y374).bind fun bt382 => ((some (([] : List (S38)) : List (S38))).bind fun y387 => (if y387.length + bt382.1.length < 4398046511104 then (keystonelaw4_InstrOwn.l0 k t377 bt382.1 (y387 ++ bt382.1) 0) else (none)))) = some r := H
        have A7 := Aside0.mk A70
        clear A70
        replace H := Option.bind_eq_some_iff.mp H
        obtain ⟨⟨t382, t383, t384⟩, A80, H⟩ := H
        replace H : ((some (([] : List (S38)) : List (S38))).bind fun y387 => (if y387.length + t382.length < 4398046511104 then (keystonelaw4_InstrOwn.l0 k t377 t382 (y387 ++ t382) 0) else (none))) = some r := H
        have A8 := Aside0.mk A80
        clear A80
        obtain ⟨y387, hy387⟩ : ∃ y_ : List (S38), y_ = (([] : List (S38))) := ⟨_, rfl⟩
        replace H : (if y387.length + t382.length < 4398046511104 then (keystonelaw4_InstrOwn.l0 k t377 t382 (y387 ++ t382) 0) else (none)) = some r := by first | (rw [hy387]; with_reducible exact H) | (have H2_ := (Option.bind_some _ _).symm.trans H; rw [hy387]; with_reducible exact H2_) | (have H2_ := (Option.bind_some _ _).symm.trans H; with_reducible exact H2_) | with_reducible exact H | (rw [hy387]; exact H) | exact H
        have Ny387 := Aside0.mk hy387
        clear hy387
        by_cases c9 : y387.length + t382.length < 4398046511104
        · rw [if_pos c9] at H
          have LMc9 := Aside0.mk c9
          clear c9
          obtain ⟨y390, hy390⟩ : ∃ y_ : List (S38), y_ = (y387 ++ t382) := ⟨_, rfl⟩
          replace H : (keystonelaw4_InstrOwn.l0 k t377 t382 y390 0) = some r := by first | (rw [hy390]; with_reducible exact H) | (have H2_ := (Option.bind_some _ _).symm.trans H; rw [hy390]; with_reducible exact H2_) | (have H2_ := (Option.bind_some _ _).symm.trans H; with_reducible exact H2_) | with_reducible exact H | (rw [hy390]; exact H) | exact H
          have Ny390 := Aside0.mk hy390
          clear hy390
          have H' := Aside0.mk H
          clear H
          go_enter Tryd.func9, Tryd.ntmps9
          go_wp2_with (first | ((with_reducible refine gate_callee (f := 10) rfl ?_); refine goesL_ (some 21) rfl rfl Tryd.func10 (by kernel_rfl) rfl #[] rfl (by (try simp only [List.map_toArray, List.map_cons, List.map_nil]); first | done | rfl | (simp only [List.length_drop, List.length_take]; rfl)) ?_; (with_reducible refine (keystonelaw4_known.calls k  true _ ?side1 A2.out).mono ?_); (case side1 => exact HG.out.below (by repeat (first | (with_reducible first | exact HB.out | apply below_alloc | apply pw_below_drewN | apply below_drew1) | exact HB.out))); rintro e w10 ⟨rfl, hb⟩; refine ⟨_, rfl, ?_⟩; have n0_ := Aside0.mk (below_step (by repeat (first | (with_reducible first | exact HB.out | apply below_alloc | apply pw_below_drewN | apply below_drew1) | exact HB.out)) hb); clear HB; have HB := n0_; clear n0_; (try clear hb); (try clear hb2); (try clear hk); (try clear hi)) | ((with_reducible refine gate_dst (N := 26) rfl ?_); refine Kd.R_lit (Kd.int .u8) _ 5 ?hg (N := 26) ?hd (xs := ([] : List Int)) (inner := []) (ok := fun _ => True) (okp := fun _ => True) ?hr ?hp (fun _ hk => hk) trivial (Below.refl _ _) (Nat.le_refl _) (by simp) ?_; (case hd => rfl); (case hg => rfl); (case hr => first | (go_simp; done) | (go_simp; rfl)); (case hp => exact (Reps.none _ _)); intro v372 w11 ho12 hb hg_ hnew_; clear hg_ hnew_; (first | rw [← Ny371.out] at ho12 | (simp only [Int.reduceToNat] at ho12; rw [← Ny371.out] at ho12)); have n0_ := Aside0.mk (Kd.R_lower ho12 (below_size (by repeat (first | (with_reducible first | exact HB.out | apply below_alloc | apply pw_below_drewN | apply below_drew1) | exact HB.out)))); have n1_ := Aside0.mk (below_step (by repeat (first | (with_reducible first | exact HB.out | apply below_alloc | apply pw_below_drewN | apply below_drew1) | exact HB.out)) hb); clear HB; have HO373 := n0_; have HB := n1_; clear n0_ n1_; clear hb ho12) | ((with_reducible refine gate_builtin (b := .append) (xs := #[.tmp 26, .tmp 27]) rfl ?_); at_builtin; refine Kd.R_append_rows (Kd.int .u8) (w0 := w) w.heap.size rfl (.tmp 26) (.tmp 27) 24 5 (.int .u8 0) 1 rfl Tryd.underlying24 info5 rfl (by decide) (by omega) v372 y371 l0 _ _ _ (fun _ => True) (fun _ => False) rfl rfl ?aO ?aR (fun _ _ h => h) (fun _ h => h.elim) ?aF ?aB ?aS ?aL ?_; (case aR => repeat (first | exact (Kd.C_below HR0.out HB.out) | (with_reducible refine Kd.C_alloc ?_ _) | (with_reducible refine Kd.C_drewN ?_ _) | (with_reducible refine Kd.C_drew ?_))); (case aB => exact (by repeat (first | (with_reducible first | exact HB.out | apply below_alloc | apply pw_below_drewN | apply below_drew1) | exact HB.out))); (case aF => exact (fun _ _ => trivial)); (case aO => exact (by (with_reducible repeat (first | apply Kd.R_alloc | apply Kd.R_drewN | apply Kd.R_drew)); exact HO373.out)); (case aS => exact (below_size (by repeat (first | (with_reducible first | exact HB.out | apply below_alloc | apply pw_below_drewN | apply below_drew1) | exact HB.out)))); (case aL => have := LMc6.out; omega); intro v375 w13 ho hb hg hat; rw [← Ny374.out] at ho; have n0_ := Aside0.mk (hb); have n1_ := Aside0.mk (ho); clear HB; clear HO373; have HB := n0_; have HO376 := n1_; clear n0_ n1_; clear ho hb hg hat; obtain ⟨Ao14, co14, eo14⟩ := Kd.R_slice HO376.out; subst eo14) | ((with_reducible refine gate_callee (f := 24) rfl ?_); refine goesL_ (some 31) rfl rfl Tryd.func24 (by kernel_rfl) rfl #[.slice Ao14 y374.length co14] rfl (by (try simp only [List.map_toArray, List.map_cons, List.map_nil]); first | done | rfl | (simp only [List.length_drop, List.length_take]; rfl)) ?_; (with_reducible refine (instr_All.calls k _ _ y374 t377 t378 t379 _ ?side1 ?side2 A7.out).mono ?_); (case side1 => repeat (first | exact (Kd.R_reads' HO376.out).2.2 | (with_reducible refine Kd.C_alloc ?_ _) | (with_reducible refine Kd.C_drewN ?_ _) | (with_reducible refine Kd.C_drew ?_))); (case side2 => exact (Kd.R_reads' HO376.out).2.1); rintro e w15 ⟨v380, rfl, ho0, hb⟩; refine ⟨_, rfl, ?_⟩; have n0_ := Aside0.mk (Kd.R_below (by (with_reducible repeat (first | apply Kd.R_alloc | apply Kd.R_drewN | apply Kd.R_drew)); exact HO376.out) hb); have n1_ := Aside0.mk (Kd.R_lower ho0 (below_size (by repeat (first | (with_reducible first | exact HB.out | apply below_alloc | apply pw_below_drewN | apply below_drew1) | exact HB.out)))); have n2_ := Aside0.mk (below_step (by repeat (first | (with_reducible first | exact HB.out | apply below_alloc | apply pw_below_drewN | apply below_drew1) | exact HB.out)) hb); clear HO376; clear HB; have HO376 := n0_; have HO381 := n1_; have HB := n2_; clear n0_ n1_ n2_; (try clear hb); (try clear hb2); (try clear hk); (try clear hi); (try clear ho0)) | ((with_reducible refine gate_callee (f := 24) rfl ?_); refine goesL_ (some 37) rfl rfl Tryd.func24 (by kernel_rfl) rfl #[.slice Ao14 y374.length co14] rfl (by (try simp only [List.map_toArray, List.map_cons, List.map_nil]); first | done | rfl | (simp only [List.length_drop, List.length_take]; rfl)) ?_; (with_reducible refine (instr_All.calls k _ _ y374 t382 t383 t384 _ ?side1 ?side2 A8.out).mono ?_); (case side1 => repeat (first | exact (Kd.R_reads' HO376.out).2.2 | (with_reducible refine Kd.C_alloc ?_ _) | (with_reducible refine Kd.C_drewN ?_ _) | (with_reducible refine Kd.C_drew ?_))); (case side2 => exact (Kd.R_reads' HO376.out).2.1); rintro e w16 ⟨v385, rfl, ho0, hb⟩; refine ⟨_, rfl, ?_⟩; have n0_ := Aside0.mk (Kd.R_below (by (with_reducible repeat (first | apply Kd.R_alloc | apply Kd.R_drewN | apply Kd.R_drew)); exact HO376.out) hb); have n1_ := Aside0.mk (Kd.R_elder' (by (with_reducible repeat (first | apply Kd.R_alloc | apply Kd.R_drewN | apply Kd.R_drew)); exact HO381.out) (Kd.R_base ho0) hb); have n2_ := Aside0.mk (Kd.R_lower (Kd.R_new' ho0 (Kd.R_lt (by (with_reducible repeat (first | apply Kd.R_alloc | apply Kd.R_drewN | apply Kd.R_drew)); exact HO381.out))) (below_size (by repeat (first | (with_reducible first | exact HB.out | apply below_alloc | apply pw_below_drewN | apply below_drew1) | exact HB.out)))); have n3_ := Aside0.mk (below_step (by repeat (first | (with_reducible first | exact HB.out | apply below_alloc | apply pw_below_drewN | apply below_drew1) | exact HB.out)) hb); clear HO376; clear HO381; clear HB; have HO376 := n0_; have HO381 := n1_; have HO386 := n2_; have HB := n3_; clear n0_ n1_ n2_ n3_; (try clear hb); (try clear hb2); (try clear hk); (try clear hi); (try clear ho0)) | ((with_reducible refine gate_dst (N := 41) rfl ?_); refine Kd.R_lit k38 _ 38 ?hg (N := 41) ?hd (xs := ([] : List (S38))) (inner := []) (ok := fun _ => True) (okp := fun _ => True) ?hr ?hp (fun _ hk => hk) trivial (Below.refl _ _) (Nat.le_refl _) (by simp) ?_; (case hd => rfl); (case hg => rfl); (case hr => first | (go_simp; done) | (go_simp; rfl)); (case hp => exact (Reps.none _ _)); intro v388 w17 ho18 hb hg_ hnew_; clear hg_ hnew_; (first | rw [← Ny387.out] at ho18 | (simp only [Int.reduceToNat] at ho18; rw [← Ny387.out] at ho18)); have n0_ := Aside0.mk (Kd.R_below (by (with_reducible repeat (first | apply Kd.R_alloc | apply Kd.R_drewN | apply Kd.R_drew)); exact HO376.out) hb); have n1_ := Aside0.mk (Kd.R_elder' (by (with_reducible repeat (first | apply Kd.R_alloc | apply Kd.R_drewN | apply Kd.R_drew)); exact HO381.out) (Kd.R_base ho18) hb); have n2_ := Aside0.mk (Kd.R_elder' (by (with_reducible repeat (first | apply Kd.R_alloc | apply Kd.R_drewN | apply Kd.R_drew)); exact HO386.out) (Kd.R_base ho18) hb); have n3_ := Aside0.mk (Kd.R_lower (Kd.R_new' (Kd.R_new' ho18 (Kd.R_lt (by (with_reducible repeat (first | apply Kd.R_alloc | apply Kd.R_drewN | apply Kd.R_drew)); exact HO381.out))) (Kd.R_lt (by (with_reducible repeat (first | apply Kd.R_alloc | apply Kd.R_drewN | apply Kd.R_drew)); exact HO386.out))) (below_size (by repeat (first | (with_reducible first | exact HB.out | apply below_alloc | apply pw_below_drewN | apply below_drew1) | exact HB.out)))); have n4_ := Aside0.mk (below_step (by repeat (first | (with_reducible first | exact HB.out | apply below_alloc | apply pw_below_drewN | apply below_drew1) | exact HB.out)) hb); clear HO376; clear HO381; clear HO386; clear HB; have HO376 := n0_; have HO381 := n1_; have HO386 := n2_; have HO389 := n3_; have HB := n4_; clear n0_ n1_ n2_ n3_ n4_; clear hb ho18; obtain ⟨Ao20, co20, eo20⟩ := Kd.R_slice HO386.out; subst eo20) | ((with_reducible refine gate_builtin (b := .append) (xs := #[.tmp 41, .tmp 42]) rfl ?_); at_builtin; refine Kd.R_append_rows k38 (w0 := w) w.heap.size rfl (.tmp 41) (.tmp 42) 22 38 (.agg #[(.int .i64 0), (.int .i64 0), (.int .i64 0), (.int .i64 0)]) 32 rfl Tryd.underlying22 info38 rfl (by decide) (by omega) v388 y387 t382 _ _ _ (fun k_ => some k_ ≠ (v380 : Value).ownBlock ∧ some k_ ≠ (.slice Ao20 t382.length co20 : Value).ownBlock) (fun _ => False) rfl rfl ?aO ?aR (fun _ _ h => h) (fun _ h => h.elim) ?aF ?aB ?aS ?aL ?_; (case aR => repeat (first | exact (Kd.R_reads' HO386.out).2.2 | (with_reducible refine Kd.C_alloc ?_ _) | (with_reducible refine Kd.C_drewN ?_ _) | (with_reducible refine Kd.C_drew ?_))); (case aB => exact (by repeat (first | (with_reducible first | exact HB.out | apply below_alloc | apply pw_below_drewN | apply below_drew1) | exact HB.out))); (case aF => exact (fun k_ hk => ⟨Kd.fresh' (Kd.R_lt (by (with_reducible repeat (first | apply Kd.R_alloc | apply Kd.R_drewN | apply Kd.R_drew)); exact HO381.out)) k_ hk, Kd.fresh' (Kd.R_lt (by (with_reducible repeat (first | apply Kd.R_alloc | apply Kd.R_drewN | apply Kd.R_drew)); exact HO386.out)) k_ hk⟩)); (case aO => exact (by (with_reducible repeat (first | apply Kd.R_alloc | apply Kd.R_drewN | apply Kd.R_drew)); exact Kd.R_mono HO389.out (fun _ hk => ⟨hk.1.2, hk.2⟩))); (case aS => exact (below_size (by repeat (first | (with_reducible first | exact HB.out | apply below_alloc | apply pw_below_drewN | apply below_drew1) | exact HB.out)))); (case aL => have := LMc9.out; omega); intro v391 w19 ho hb hg hat; rw [← Ny390.out] at ho; have n0_ := Aside0.mk (Kd.R_over' (by (with_reducible repeat (first | apply Kd.R_alloc | apply Kd.R_drewN | apply Kd.R_drew)); exact HO376.out) (Kd.R_typed (by (with_reducible repeat (first | apply Kd.R_alloc | apply Kd.R_drewN | apply Kd.R_drew)); exact HO389.out)) (by decide) hg); have n1_ := Aside0.mk (Kd.R_after (ok := (fun k_ => some k_ ≠ (.slice Ao20 t382.length co20 : Value).ownBlock)) (by (with_reducible repeat (first | apply Kd.R_alloc | apply Kd.R_drewN | apply Kd.R_drew)); exact Kd.R_mono HO381.out (fun _ hk => ⟨hk.1.2, hk.2⟩)) hg hat); have n2_ := Aside0.mk (Kd.R_after (ok := (fun k_ => some k_ ≠ (v380 : Value).ownBlock)) (by (with_reducible repeat (first | apply Kd.R_alloc | apply Kd.R_drewN | apply Kd.R_drew)); exact Kd.R_mono HO386.out (fun _ hk => ⟨hk.1.2, hk.2⟩)) hg hat); have n3_ := Aside0.mk (hb); have n4_ := Aside0.mk (ho); clear HO376; clear HO381; clear HO386; clear HB; clear HO389; have HO376 := n0_; have HO381 := n1_; have HO386 := n2_; have HB := n3_; have HO392 := n4_; clear n0_ n1_ n2_ n3_ n4_; clear ho hb hg hat))
          go_loopg [11] k (fun kq v11 w' => ∃ (x4_1 : List (S38)) (x11_1 : Int), v11 = .int .i64 x11_1 ∧ Aside0 (keystonelaw4_InstrOwn.l0 kq x4_1 t382 y390 x11_1 = some r) ∧ Aside0 (kq ≤ k) ∧ Aside0 (Kd.R k38 38 w' w.heap.size (fun k_ => some k_ ≠ ((.slice Ao20 t382.length co20) : Value).ownBlock ∧ some k_ ≠ (v391 : Value).ownBlock) v380 x4_1) ∧ Aside0 (Kd.R k38 38 w' w.heap.size (fun k_ => some k_ ≠ (v380 : Value).ownBlock ∧ some k_ ≠ (v391 : Value).ownBlock) (.slice Ao20 t382.length co20) t382) ∧ Aside0 (Kd.R k38 38 w' w.heap.size (fun k_ => some k_ ≠ (v380 : Value).ownBlock ∧ some k_ ≠ ((.slice Ao20 t382.length co20) : Value).ownBlock) v391 y390) ∧ Aside0 (Below w.heap.size w w'))
          case atStart => exact ⟨(t377), (0), (by first | rfl | (simp; done) | (simp [*]; done) | (simp [wrap64]; done)), H', ⟨Nat.le_refl _⟩, ⟨by (with_reducible repeat (first | apply Kd.R_alloc | apply Kd.R_drewN | apply Kd.R_drew)); exact HO381.out⟩, ⟨by (with_reducible repeat (first | apply Kd.R_alloc | apply Kd.R_drewN | apply Kd.R_drew)); exact HO386.out⟩, ⟨by (with_reducible repeat (first | apply Kd.R_alloc | apply Kd.R_drewN | apply Kd.R_drew)); exact HO392.out⟩, ⟨by repeat (first | (with_reducible first | exact HB.out | apply below_alloc | apply pw_below_drewN | apply below_drew1) | exact HB.out)⟩⟩
          case round =>
            clear H'
            try clear c1
            try clear c2
            try clear p2
            try clear c3
            try clear c4
            try clear c4b0
            try clear c4b1
            try clear c6
            try clear c9
            try clear c10
            obtain ⟨x4_1, x11_1, rfl, HA, HK1, HO_4, HO_7, HO_10, HB⟩ := hrel
            cases gk with
            | zero => exact absurd HA.out (by simp [keystonelaw4_InstrOwn.l0])
            | succ k1 =>
              have H := HA.out
              clear HA
              simp only [keystonelaw4_InstrOwn.l0] at H
              by_cases c21 : x11_1 < (x4_1.length : Int)
              · rw [if_pos c21] at H
                have c21b0 : decide (x11_1 < (x4_1.length : Int)) = true := decide_eq_true c21
                clear c21
                by_cases c22 : 0 ≤ x11_1
                · rw [if_pos c22] at H
                  have c22b0 : decide (0 ≤ x11_1) = true := decide_eq_true c22
                  clear c22
                  obtain ⟨y393, hy393⟩ : ∃ y_ : List (S38), y_ = (x4_1.set (x11_1 : Int).toNat (⟨0, 99, 0, 0⟩ : S38)) := ⟨_, rfl⟩
                  replace H : (keystonelaw4_InstrOwn.l0 k1 y393 t382 y390 (wrap64 (x11_1 + 1))) = some r := by first | (rw [hy393]; with_reducible exact H) | (have H2_ := (Option.bind_some _ _).symm.trans H; rw [hy393]; with_reducible exact H2_) | (have H2_ := (Option.bind_some _ _).symm.trans H; with_reducible exact H2_) | with_reducible exact H | (rw [hy393]; exact H) | exact H
                  have Ny393 := Aside0.mk hy393
                  clear hy393
                  have H' := Aside0.mk H
                  clear H
                  obtain ⟨Ao24, co24, eo24⟩ := Kd.R_slice HO_4.out
                  subst eo24
                  have p23 : 0 ≤ (x11_1 : Int) := of_decide_eq_true (by first | (with_reducible assumption) | assumption)
                  have q23 : (x11_1 : Int) < ((x4_1.length : Int) : Int) := of_decide_eq_true (by first | (with_reducible assumption) | assumption)
                  obtain ⟨go23, co23, eo23, gb23, gl23, cl23, HG23⟩ := Kd.R_form HO_4.out (by omega)
                  (first | cases eo23 | (injection eo23 with ea_ en_ ec_; (first | subst ea_ | (injection ea_ with ea_; subst ea_)); subst ec_; clear en_))
                  have GB23 := Aside0.mk gb23
                  have GG23 := Aside0.mk HG23
                  clear gb23 gl23 HG23
                  obtain ⟨ce23, hcl23, hM23, hcc23, hfr23⟩ := Kd.R_elem HO_4.out z38 (x11_1 : Int) p23 q23
                  obtain rfl := k38_openM hM23
                  have hx23_0 : wr.cell? ⟨go23, (x11_1 : Int).toNat * 4, none⟩ = some (.int .i64 ((rd_T38 x4_1 x11_1).f0)) := hcc23 0 _ rfl
                  have hx23_1 : wr.cell? ⟨go23, (x11_1 : Int).toNat * 4 + 1, none⟩ = some (.int .i64 ((rd_T38 x4_1 x11_1).f1)) := hcc23 1 _ rfl
                  have hx23_2 : wr.cell? ⟨go23, (x11_1 : Int).toNat * 4 + 2, none⟩ = some (.int .i64 ((rd_T38 x4_1 x11_1).f2)) := hcc23 2 _ rfl
                  have hx23_3 : wr.cell? ⟨go23, (x11_1 : Int).toNat * 4 + 3, none⟩ = some (.int .i64 ((rd_T38 x4_1 x11_1).f3)) := hcc23 3 _ rfl
                  have hf23_0 : wr.frozen? ⟨go23, (x11_1 : Int).toNat * 4, none⟩ = false := hfr23 0
                  have hf23_1 : wr.frozen? ⟨go23, (x11_1 : Int).toNat * 4 + 1, none⟩ = false := hfr23 1
                  have hf23_2 : wr.frozen? ⟨go23, (x11_1 : Int).toNat * 4 + 2, none⟩ = false := hfr23 2
                  have hf23_3 : wr.frozen? ⟨go23, (x11_1 : Int).toNat * 4 + 3, none⟩ = false := hfr23 3
                  clear hcl23 hcc23 hfr23 hM23
                  replace p23 := eq_true p23
                  replace q23 := eq_true q23
                  have HX25 := Aside0.mk (show Kd.R k38 38 wr w.heap.size (fun k_ => some k_ ≠ (.slice Ao20 t382.length co20 : Value).ownBlock ∧ some k_ ≠ (v391 : Value).ownBlock) (.slice (some ⟨go23, 0, none⟩) x4_1.length co24) x4_1 from (by (with_reducible repeat (first | apply Kd.R_alloc | apply Kd.R_drewN | apply Kd.R_drew)); exact HO_4.out))
                  obtain ⟨ce25, hcl25, hM25, hcc25, hfr25⟩ := Kd.R_elem HX25.out z38 (x11_1 : Int) (of_decide_eq_true (by first | (with_reducible assumption) | assumption)) (by have h_ : (x11_1 : Int) < ((x4_1.length : Int) : Int) := of_decide_eq_true (by first | (with_reducible assumption) | assumption); first | exact h_ | (have e_ := (Kd.R_reads' HO_4.out).1; omega) | simpa using h_)
                  obtain rfl := k38_openM hM25
                  have HP25 := Kd.R_seg HX25.out (x11_1 : Int) (of_decide_eq_true (by first | (with_reducible assumption) | assumption)) (by have h_ : (x11_1 : Int) < ((x4_1.length : Int) : Int) := of_decide_eq_true (by first | (with_reducible assumption) | assumption); first | exact h_ | (have e_ := (Kd.R_reads' HO_4.out).1; omega) | simpa using h_) (seg := [.int .i64 0, .int .i64 99, .int .i64 0, .int .i64 0]) (j := 0) hcl25 hcc25 (show 4 ≤ 4 from by decide) (x' := (⟨0, 99, 0, 0⟩ : S38)) (k38_mkM _ _ _ (⟨0, 99, 0, 0⟩ : S38) ) (fun _ hk => hk)
                  have hx25_0 := hcc25 0 _ rfl
                  (try simp only [show (k38).sz = 4 from rfl, Nat.mul_one, Nat.add_zero] at hx25_0)
                  have hf25_0 := hfr25 0
                  (try simp only [show (k38).sz = 4 from rfl, Nat.mul_one, Nat.add_zero] at hf25_0)
                  have hx25_1 := hcc25 1 _ rfl
                  (try simp only [show (k38).sz = 4 from rfl, Nat.mul_one, Nat.add_zero] at hx25_1)
                  have hf25_1 := hfr25 1
                  (try simp only [show (k38).sz = 4 from rfl, Nat.mul_one, Nat.add_zero] at hf25_1)
                  have hx25_2 := hcc25 2 _ rfl
                  (try simp only [show (k38).sz = 4 from rfl, Nat.mul_one, Nat.add_zero] at hx25_2)
                  have hf25_2 := hfr25 2
                  (try simp only [show (k38).sz = 4 from rfl, Nat.mul_one, Nat.add_zero] at hf25_2)
                  have hx25_3 := hcc25 3 _ rfl
                  (try simp only [show (k38).sz = 4 from rfl, Nat.mul_one, Nat.add_zero] at hx25_3)
                  have hf25_3 := hfr25 3
                  (try simp only [show (k38).sz = 4 from rfl, Nat.mul_one, Nat.add_zero] at hf25_3)
                  clear hcl25 hcc25 hfr25 hM25
                  go_wp2_with (first | ((with_reducible refine gate_store (t := 38) (p := 53) rfl ?_); refine store_event (t := 38) (p := 53) (v := ?vo_w26) (w1 := ((((wr.setCell ⟨go23, (x11_1 : Int).toNat * 4, none⟩ (.int .i64 0)).setCell ⟨go23, (x11_1 : Int).toNat * 4 + 1, none⟩ (.int .i64 99)).setCell ⟨go23, (x11_1 : Int).toNat * 4 + 2, none⟩ (.int .i64 0)).setCell ⟨go23, (x11_1 : Int).toNat * 4 + 3, none⟩ (.int .i64 0))) ?hg ?ho ?hn ?hr ?_; (case ho => rfl); (case hg => rfl); (case hn => rfl); (case hr => first | (go_simp; done) | (go_simp; rfl)); intro w26 hw; have hg : wr.grownBy w26 (some go23) := (by rw [hw]; exact HP25.2); have hp_ : Kd.R k38 38 w26 w.heap.size (fun k_ => some k_ ≠ (.slice Ao20 t382.length co20 : Value).ownBlock ∧ some k_ ≠ (v391 : Value).ownBlock) (.slice (some ⟨go23, 0, none⟩) x4_1.length co24) y393 := (by rw [hw, Ny393.out]; exact HP25.1); clear HP25; have n0_ := Aside0.mk (hp_); have n1_ := Aside0.mk (Kd.R_after (v := (.slice (some ⟨go23, 0, none⟩) x4_1.length co24)) (v1 := (.slice (some ⟨go23, 0, none⟩) x4_1.length co24)) (ok := (fun k_ => some k_ ≠ (v391 : Value).ownBlock)) (by (with_reducible repeat (first | apply Kd.R_alloc | apply Kd.R_drewN | apply Kd.R_drew)); exact Kd.R_mono HO_7.out (fun _ hk => ⟨hk.2, hk.1⟩)) hg (.inl rfl)); have n2_ := Aside0.mk (Kd.R_after (v := (.slice (some ⟨go23, 0, none⟩) x4_1.length co24)) (v1 := (.slice (some ⟨go23, 0, none⟩) x4_1.length co24)) (ok := (fun k_ => some k_ ≠ (.slice Ao20 t382.length co20 : Value).ownBlock)) (by (with_reducible repeat (first | apply Kd.R_alloc | apply Kd.R_drewN | apply Kd.R_drew)); exact Kd.R_mono HO_10.out (fun _ hk => ⟨hk.2, hk.1⟩)) hg (.inl rfl)); have n3_ := Aside0.mk ((by rw [hw]; exact below_set (below_set (below_set (below_set (HB.out) GB23.out) GB23.out) GB23.out) GB23.out : Below w.heap.size w w26)); clear HO_4; clear HO_7; clear HO_10; clear HB; have HO_4 := n0_; have HO_7 := n1_; have HO_10 := n2_; have HB := n3_; clear n0_ n1_ n2_ n3_; clear hg hw hp_))
                  go_roundg k1
                  case measure => have := HK1.out; omega
                  case rel => exact ⟨(y393), (wrap64 (x11_1 + 1)), (by first | rfl | (simp; done) | (simp [*]; done) | (simp [wrap64]; done)), H', ⟨by have := HK1.out; omega⟩, ⟨by (with_reducible repeat (first | apply Kd.R_alloc | apply Kd.R_drewN | apply Kd.R_drew)); exact HO_4.out⟩, ⟨by (with_reducible repeat (first | apply Kd.R_alloc | apply Kd.R_drewN | apply Kd.R_drew)); exact Kd.R_mono HO_7.out (fun _ hk => ⟨hk.2, hk.1⟩)⟩, ⟨by (with_reducible repeat (first | apply Kd.R_alloc | apply Kd.R_drewN | apply Kd.R_drew)); exact Kd.R_mono HO_10.out (fun _ hk => ⟨hk.2, hk.1⟩)⟩, ⟨by repeat (first | (with_reducible first | exact HB.out | apply below_alloc | apply pw_below_drewN | apply below_drew1) | exact HB.out)⟩⟩
                · rw [if_neg c22] at H
                  exact absurd H (by simp)
              · rw [if_neg c21] at H
                have c21b0 : decide (x11_1 < (x4_1.length : Int)) = false := decide_eq_false c21
                clear c21
                have H' := Aside0.mk H
                clear H
                obtain ⟨Ao27, co27, eo27⟩ := Kd.R_slice HO_4.out
                subst eo27
                go_wp2
                go_loopg [4, 12] k1 (fun kq v4 v12 w' => ∃ (x4_2 : List (S38)) (x12_2 : Int), v12 = .int .i64 x12_2 ∧ Aside0 (keystonelaw4_InstrOwn.l1 kq x4_2 t382 y390 x12_2 = some r) ∧ Aside0 (kq ≤ k1) ∧ Aside0 (Kd.R k38 38 w' w.heap.size (fun k_ => some k_ ≠ ((.slice Ao20 t382.length co20) : Value).ownBlock ∧ some k_ ≠ (v391 : Value).ownBlock) v4 x4_2) ∧ Aside0 (Kd.R k38 38 w' w.heap.size (fun k_ => some k_ ≠ (v4 : Value).ownBlock ∧ some k_ ≠ (v391 : Value).ownBlock) (.slice Ao20 t382.length co20) t382) ∧ Aside0 (Kd.R k38 38 w' w.heap.size (fun k_ => some k_ ≠ (v4 : Value).ownBlock ∧ some k_ ≠ ((.slice Ao20 t382.length co20) : Value).ownBlock) v391 y390) ∧ Aside0 (Below w.heap.size w w'))
                case atStart => exact ⟨(x4_1), (0), (by first | rfl | (simp; done) | (simp [*]; done) | (simp [wrap64]; done)), H', ⟨Nat.le_refl _⟩, ⟨by (with_reducible repeat (first | apply Kd.R_alloc | apply Kd.R_drewN | apply Kd.R_drew)); exact HO_4.out⟩, ⟨by (with_reducible repeat (first | apply Kd.R_alloc | apply Kd.R_drewN | apply Kd.R_drew)); exact HO_7.out⟩, ⟨by (with_reducible repeat (first | apply Kd.R_alloc | apply Kd.R_drewN | apply Kd.R_drew)); exact HO_10.out⟩, ⟨by repeat (first | (with_reducible first | exact HB.out | apply below_alloc | apply pw_below_drewN | apply below_drew1) | exact HB.out)⟩⟩
                case round =>
                  clear H'
                  try clear c1
                  try clear c2
                  try clear p2
                  try clear q2
                  try clear hx2
                  try clear hf2
                  try clear c3
                  try clear c4
                  try clear c4b0
                  try clear c4b1
                  try clear c6
                  try clear p6
                  try clear c9
                  try clear c10
                  try clear c21
                  try clear c21b0
                  try clear c22
                  try clear c22b0
                  try clear c23
                  try clear p23
                  try clear q23
                  try clear hx23
                  try clear hf23
                  try clear c24
                  try clear c25
                  try clear hx25
                  try clear hf25
                  try clear hx23_0
                  try clear hx23_1
                  try clear hx23_2
                  try clear hx23_3
                  try clear hx25_0
                  try clear hx25_1
                  try clear hx25_2
                  try clear hx25_3
                  try clear p2
                  try clear p23
                  try clear q23
                  obtain ⟨x4_2, x12_2, rfl, HA, HK2, HO_4, HO_7, HO_10, HB⟩ := hrel
                  cases gk with
                  | zero => exact absurd HA.out (by simp [keystonelaw4_InstrOwn.l1])
                  | succ k2 =>
                    have H := HA.out
                    clear HA
                    simp only [keystonelaw4_InstrOwn.l1] at H
                    by_cases c28 : x12_2 < 20
                    · rw [if_pos c28] at H
                      have c28b0 : decide (x12_2 < 20) = true := decide_eq_true c28
                      clear c28
                      by_cases c29 : x4_2.length < 4398046511104
                      · rw [if_pos c29] at H
                        have LMc29 := Aside0.mk c29
                        clear c29
                        obtain ⟨y394, hy394⟩ : ∃ y_ : List (S38), y_ = (x4_2 ++ [(⟨0, 98, 0, 0⟩ : S38)]) := ⟨_, rfl⟩
                        replace H : (keystonelaw4_InstrOwn.l1 k2 y394 t382 y390 (wrap64 (x12_2 + 1))) = some r := by first | (rw [hy394]; with_reducible exact H) | (have H2_ := (Option.bind_some _ _).symm.trans H; rw [hy394]; with_reducible exact H2_) | (have H2_ := (Option.bind_some _ _).symm.trans H; with_reducible exact H2_) | with_reducible exact H | (rw [hy394]; exact H) | exact H
                        have Ny394 := Aside0.mk hy394
                        clear hy394
                        have H' := Aside0.mk H
                        clear H
                        go_wp2_with (first | ((with_reducible refine gate_builtin (b := .append) (xs := #[.tmp 58, .tmp 60]) rfl ?_); at_builtin; refine Kd.R_append k38 (w0 := w) w.heap.size rfl (.tmp 58) (.tmp 60) 22 38 (.agg #[(.int .i64 0), (.int .i64 0), (.int .i64 0), (.int .i64 0)]) 32 rfl Tryd.underlying22 info38 rfl (by decide) (by omega) u4 x4_2 (⟨0, 98, 0, 0⟩ : S38) [.int .i64 0, .int .i64 98, .int .i64 0, .int .i64 0] (fun k_ => some k_ ≠ (.slice Ao20 t382.length co20 : Value).ownBlock ∧ some k_ ≠ (v391 : Value).ownBlock) (fun _ => False) rfl rfl ?aP (fun _ hk => hk.elim) ?aF ?aO ?aB ?aS ?aL ?_; (case aP => exact k38_mkM _ _ _ (⟨0, 98, 0, 0⟩ : S38)); (case aB => exact (by repeat (first | (with_reducible first | exact HB.out | apply below_alloc | apply pw_below_drewN | apply below_drew1) | exact HB.out))); (case aF => exact (fun k_ hk => ⟨Kd.fresh' (Kd.R_lt (by (with_reducible repeat (first | apply Kd.R_alloc | apply Kd.R_drewN | apply Kd.R_drew)); exact HO_7.out)) k_ hk, Kd.fresh' (Kd.R_lt (by (with_reducible repeat (first | apply Kd.R_alloc | apply Kd.R_drewN | apply Kd.R_drew)); exact HO_10.out)) k_ hk⟩)); (case aO => exact (by (with_reducible repeat (first | apply Kd.R_alloc | apply Kd.R_drewN | apply Kd.R_drew)); exact HO_4.out)); (case aS => exact (below_size (by repeat (first | (with_reducible first | exact HB.out | apply below_alloc | apply pw_below_drewN | apply below_drew1) | exact HB.out)))); (case aL => have := LMc29.out; omega); intro v395 w30 ho hb hg hat; rw [← Ny394.out] at ho; have n0_ := Aside0.mk (Kd.R_after (ok := (fun k_ => some k_ ≠ (v391 : Value).ownBlock)) (by (with_reducible repeat (first | apply Kd.R_alloc | apply Kd.R_drewN | apply Kd.R_drew)); exact Kd.R_mono HO_7.out (fun _ hk => ⟨hk.2, hk.1⟩)) hg hat); have n1_ := Aside0.mk (Kd.R_after (ok := (fun k_ => some k_ ≠ (.slice Ao20 t382.length co20 : Value).ownBlock)) (by (with_reducible repeat (first | apply Kd.R_alloc | apply Kd.R_drewN | apply Kd.R_drew)); exact Kd.R_mono HO_10.out (fun _ hk => ⟨hk.2, hk.1⟩)) hg hat); have n2_ := Aside0.mk (hb); have n3_ := Aside0.mk (ho); clear HO_7; clear HO_10; clear HB; clear HO_4; have HO_7 := n0_; have HO_10 := n1_; have HB := n2_; have HO396 := n3_; clear n0_ n1_ n2_ n3_; clear ho hb hg hat))
                        go_roundg k2
                        case measure => have := HK1.out; have := HK2.out; omega
                        case rel => exact ⟨(y394), (wrap64 (x12_2 + 1)), (by first | rfl | (simp; done) | (simp [*]; done) | (simp [wrap64]; done)), H', ⟨by have := HK1.out; have := HK2.out; omega⟩, ⟨by (with_reducible repeat (first | apply Kd.R_alloc | apply Kd.R_drewN | apply Kd.R_drew)); exact HO396.out⟩, ⟨by (with_reducible repeat (first | apply Kd.R_alloc | apply Kd.R_drewN | apply Kd.R_drew)); exact Kd.R_mono HO_7.out (fun _ hk => ⟨hk.2, hk.1⟩)⟩, ⟨by (with_reducible repeat (first | apply Kd.R_alloc | apply Kd.R_drewN | apply Kd.R_drew)); exact Kd.R_mono HO_10.out (fun _ hk => ⟨hk.2, hk.1⟩)⟩, ⟨by repeat (first | (with_reducible first | exact HB.out | apply below_alloc | apply pw_below_drewN | apply below_drew1) | exact HB.out)⟩⟩
                      · rw [if_neg c29] at H
                        exact absurd H (by simp)
                    · rw [if_neg c28] at H
                      have c28b0 : decide (x12_2 < 20) = false := decide_eq_false c28
                      clear c28
                      replace H := Option.bind_eq_some_iff.mp H
                      obtain ⟨⟨t397, t398⟩, A310, H⟩ := H
                      replace H : ((instr_Encode.f k2 t382).bind fun bt401 => (keystonelaw4_InstrOwn.l2 k2 t382 y390 t397 t398 bt401.1 bt401.2 0)) = some r := H
                      have A31 := Aside0.mk A310
                      clear A310
                      replace H := Option.bind_eq_some_iff.mp H
                      obtain ⟨⟨t401, t402⟩, A320, H⟩ := H
                      replace H : (keystonelaw4_InstrOwn.l2 k2 t382 y390 t397 t398 t401 t402 0) = some r := H
                      have A32 := Aside0.mk A320
                      clear A320
                      have H' := Aside0.mk H
                      clear H
                      go_wp2_with (first | ((with_reducible refine gate_callee (f := 11) rfl ?_); refine goesL_ (some 64) rfl rfl Tryd.func11 (by kernel_rfl) rfl #[.slice Ao20 t382.length co20] rfl (by (try simp only [List.map_toArray, List.map_cons, List.map_nil]); first | done | rfl | (simp only [List.length_drop, List.length_take]; rfl)) ?_; (with_reducible refine (instr_Encode.calls k2 _ _ t382 t397 t398 _ ?side1 ?side2 A31.out).mono ?_); (case side1 => repeat (first | exact (Kd.R_reads' HO_7.out).2.2 | (with_reducible refine Kd.C_alloc ?_ _) | (with_reducible refine Kd.C_drewN ?_ _) | (with_reducible refine Kd.C_drew ?_))); (case side2 => exact (Kd.R_reads' HO_7.out).2.1); rintro e w33 ⟨v399, rfl, ho0, hb⟩; refine ⟨_, rfl, ?_⟩; have n0_ := Aside0.mk (Kd.R_below (by (with_reducible repeat (first | apply Kd.R_alloc | apply Kd.R_drewN | apply Kd.R_drew)); exact HO_4.out) hb); have n1_ := Aside0.mk (Kd.R_below (by (with_reducible repeat (first | apply Kd.R_alloc | apply Kd.R_drewN | apply Kd.R_drew)); exact HO_7.out) hb); have n2_ := Aside0.mk (Kd.R_below (by (with_reducible repeat (first | apply Kd.R_alloc | apply Kd.R_drewN | apply Kd.R_drew)); exact HO_10.out) hb); have n3_ := Aside0.mk (Kd.R_lower ho0 (below_size (by repeat (first | (with_reducible first | exact HB.out | apply below_alloc | apply pw_below_drewN | apply below_drew1) | exact HB.out)))); have n4_ := Aside0.mk (below_step (by repeat (first | (with_reducible first | exact HB.out | apply below_alloc | apply pw_below_drewN | apply below_drew1) | exact HB.out)) hb); clear HO_4; clear HO_7; clear HO_10; clear HB; have HO_4 := n0_; have HO_7 := n1_; have HO_10 := n2_; have HO400 := n3_; have HB := n4_; clear n0_ n1_ n2_ n3_ n4_; (try clear hb); (try clear hb2); (try clear hk); (try clear hi); (try clear ho0)) | ((with_reducible refine gate_callee (f := 11) rfl ?_); refine goesL_ (some 69) rfl rfl Tryd.func11 (by kernel_rfl) rfl #[.slice Ao20 t382.length co20] rfl (by (try simp only [List.map_toArray, List.map_cons, List.map_nil]); first | done | rfl | (simp only [List.length_drop, List.length_take]; rfl)) ?_; (with_reducible refine (instr_Encode.calls k2 _ _ t382 t401 t402 _ ?side1 ?side2 A32.out).mono ?_); (case side1 => repeat (first | exact (Kd.R_reads' HO_7.out).2.2 | (with_reducible refine Kd.C_alloc ?_ _) | (with_reducible refine Kd.C_drewN ?_ _) | (with_reducible refine Kd.C_drew ?_))); (case side2 => exact (Kd.R_reads' HO_7.out).2.1); rintro e w34 ⟨v403, rfl, ho0, hb⟩; refine ⟨_, rfl, ?_⟩; have n0_ := Aside0.mk (Kd.R_below (by (with_reducible repeat (first | apply Kd.R_alloc | apply Kd.R_drewN | apply Kd.R_drew)); exact HO_4.out) hb); have n1_ := Aside0.mk (Kd.R_below (by (with_reducible repeat (first | apply Kd.R_alloc | apply Kd.R_drewN | apply Kd.R_drew)); exact HO_7.out) hb); have n2_ := Aside0.mk (Kd.R_below (by (with_reducible repeat (first | apply Kd.R_alloc | apply Kd.R_drewN | apply Kd.R_drew)); exact HO_10.out) hb); have n3_ := Aside0.mk (Kd.R_elder' (by (with_reducible repeat (first | apply Kd.R_alloc | apply Kd.R_drewN | apply Kd.R_drew)); exact HO400.out) (Kd.R_base ho0) hb); have n4_ := Aside0.mk (Kd.R_lower (Kd.R_new' ho0 (Kd.R_lt (by (with_reducible repeat (first | apply Kd.R_alloc | apply Kd.R_drewN | apply Kd.R_drew)); exact HO400.out))) (below_size (by repeat (first | (with_reducible first | exact HB.out | apply below_alloc | apply pw_below_drewN | apply below_drew1) | exact HB.out)))); have n5_ := Aside0.mk (below_step (by repeat (first | (with_reducible first | exact HB.out | apply below_alloc | apply pw_below_drewN | apply below_drew1) | exact HB.out)) hb); clear HO_4; clear HO_7; clear HO_10; clear HO400; clear HB; have HO_4 := n0_; have HO_7 := n1_; have HO_10 := n2_; have HO400 := n3_; have HO404 := n4_; have HB := n5_; clear n0_ n1_ n2_ n3_ n4_ n5_; (try clear hb); (try clear hb2); (try clear hk); (try clear hi); (try clear ho0)))
                      go_loopg [17] k2 (fun kq v17 w' => ∃ (x13_3 : List Int) (x17_3 : Int), v17 = .int .i64 x17_3 ∧ Aside0 (keystonelaw4_InstrOwn.l2 kq t382 y390 x13_3 t398 t401 t402 x17_3 = some r) ∧ Aside0 (kq ≤ k2) ∧ Aside0 (Kd.R k38 38 w' w.heap.size (fun k_ => some k_ ≠ (v391 : Value).ownBlock) (.slice Ao20 t382.length co20) t382) ∧ Aside0 (Kd.R k38 38 w' w.heap.size (fun k_ => some k_ ≠ ((.slice Ao20 t382.length co20) : Value).ownBlock) v391 y390) ∧ Aside0 (Kd.R (Kd.int .u8) 5 w' w.heap.size (fun k_ => some k_ ≠ (v403 : Value).ownBlock) v399 x13_3) ∧ Aside0 (Kd.R (Kd.int .u8) 5 w' w.heap.size (fun k_ => some k_ ≠ (v399 : Value).ownBlock) v403 t401) ∧ Aside0 (Below w.heap.size w w'))
                      case atStart => exact ⟨(t397), (0), (by first | rfl | (simp; done) | (simp [*]; done) | (simp [wrap64]; done)), H', ⟨Nat.le_refl _⟩, ⟨by (with_reducible repeat (first | apply Kd.R_alloc | apply Kd.R_drewN | apply Kd.R_drew)); exact Kd.R_mono HO_7.out (fun _ hk => hk.2)⟩, ⟨by (with_reducible repeat (first | apply Kd.R_alloc | apply Kd.R_drewN | apply Kd.R_drew)); exact Kd.R_mono HO_10.out (fun _ hk => hk.2)⟩, ⟨by (with_reducible repeat (first | apply Kd.R_alloc | apply Kd.R_drewN | apply Kd.R_drew)); exact Kd.R_mono HO400.out (fun _ hk => hk.2)⟩, ⟨by (with_reducible repeat (first | apply Kd.R_alloc | apply Kd.R_drewN | apply Kd.R_drew)); exact Kd.R_mono HO404.out (fun _ hk => hk.2)⟩, ⟨by repeat (first | (with_reducible first | exact HB.out | apply below_alloc | apply pw_below_drewN | apply below_drew1) | exact HB.out)⟩⟩
                      case round =>
                        clear H'
                        try clear c1
                        try clear c2
                        try clear p2
                        try clear q2
                        try clear hx2
                        try clear hf2
                        try clear c3
                        try clear c4
                        try clear c4b0
                        try clear c4b1
                        try clear c6
                        try clear p6
                        try clear c9
                        try clear c10
                        try clear c11
                        try clear c21
                        try clear c21b0
                        try clear c22
                        try clear c22b0
                        try clear c23
                        try clear p23
                        try clear q23
                        try clear hx23
                        try clear hf23
                        try clear c24
                        try clear c25
                        try clear hx25
                        try clear hf25
                        try clear c28
                        try clear c28b0
                        try clear c29
                        try clear hx23_0
                        try clear hx23_1
                        try clear hx23_2
                        try clear hx23_3
                        try clear hx25_0
                        try clear hx25_1
                        try clear hx25_2
                        try clear hx25_3
                        try clear p2
                        try clear p23
                        try clear p6
                        try clear q2
                        try clear q23
                        obtain ⟨x13_3, x17_3, rfl, HA, HK3, HO_7, HO_10, HO_13, HO_15, HB⟩ := hrel
                        cases gk with
                        | zero => exact absurd HA.out (by simp [keystonelaw4_InstrOwn.l2])
                        | succ k3 =>
                          have H := HA.out
                          clear HA
                          simp only [keystonelaw4_InstrOwn.l2] at H
                          by_cases c35 : x17_3 < (x13_3.length : Int)
                          · rw [if_pos c35] at H
                            have c35b0 : decide (x17_3 < (x13_3.length : Int)) = true := decide_eq_true c35
                            clear c35
                            by_cases c36 : 0 ≤ x17_3
                            · rw [if_pos c36] at H
                              have c36b0 : decide (0 ≤ x17_3) = true := decide_eq_true c36
                              clear c36
                              obtain ⟨y405, hy405⟩ : ∃ y_ : List Int, y_ = (x13_3.set (x17_3 : Int).toNat 77) := ⟨_, rfl⟩
                              replace H : (keystonelaw4_InstrOwn.l2 k3 t382 y390 y405 t398 t401 t402 (wrap64 (x17_3 + 1))) = some r := by first | (rw [hy405]; with_reducible exact H) | (have H2_ := (Option.bind_some _ _).symm.trans H; rw [hy405]; with_reducible exact H2_) | (have H2_ := (Option.bind_some _ _).symm.trans H; with_reducible exact H2_) | with_reducible exact H | (rw [hy405]; exact H) | exact H
                              have Ny405 := Aside0.mk hy405
                              clear hy405
                              have H' := Aside0.mk H
                              clear H
                              obtain ⟨Ao38, co38, eo38⟩ := Kd.R_slice HO_13.out
                              subst eo38
                              have p37 : 0 ≤ (x17_3 : Int) := of_decide_eq_true (by first | (with_reducible assumption) | assumption)
                              have q37 : (x17_3 : Int) < ((x13_3.length : Int) : Int) := of_decide_eq_true (by first | (with_reducible assumption) | assumption)
                              obtain ⟨go37, co37, eo37, gb37, gl37, cl37, HG37⟩ := Kd.R_form HO_13.out (by omega)
                              (first | cases eo37 | (injection eo37 with ea_ en_ ec_; (first | subst ea_ | (injection ea_ with ea_; subst ea_)); subst ec_; clear en_))
                              have GB37 := Aside0.mk gb37
                              have GG37 := Aside0.mk HG37
                              clear gb37 gl37 HG37
                              obtain ⟨hx37_0, hf37_0⟩ := Kd.R_celln 0 HO_13.out (x17_3 : Int) p37 q37
                              replace p37 := eq_true p37
                              replace q37 := eq_true q37
                              have HP39 := Kd.R_putg HO_13.out (x17_3 : Int) 77
                              go_wp2_with (first | ((with_reducible refine gate_store (t := 5) (p := 80) rfl ?_); refine store_event (t := 5) (p := 80) (v := ?vo_w40) (w1 := (wr.setCell ⟨go37, (x17_3 : Int).toNat, none⟩ (.int .u8 77))) ?hg ?ho ?hn ?hr ?_; (case ho => rfl); (case hg => rfl); (case hn => rfl); (case hr => first | (go_simp; done) | (go_simp; rfl)); intro w40 hw; have hg : wr.grownBy w40 (some go37) := (by rw [hw]; exact HP39.2); have hp_ : Kd.R (Kd.int .u8) 5 w40 w.heap.size (fun k_ => some k_ ≠ (v403 : Value).ownBlock) (.slice (some ⟨go37, 0, none⟩) x13_3.length co38) y405 := (by rw [hw, Ny405.out]; exact HP39.1); clear HP39; have n0_ := Aside0.mk (Kd.R_over' (v := (.slice (some ⟨go37, 0, none⟩) x13_3.length co38)) (by (with_reducible repeat (first | apply Kd.R_alloc | apply Kd.R_drewN | apply Kd.R_drew)); exact HO_7.out) (Kd.R_typed HO_13.out) (by decide) hg); have n1_ := Aside0.mk (Kd.R_over' (v := (.slice (some ⟨go37, 0, none⟩) x13_3.length co38)) (by (with_reducible repeat (first | apply Kd.R_alloc | apply Kd.R_drewN | apply Kd.R_drew)); exact HO_10.out) (Kd.R_typed HO_13.out) (by decide) hg); have n2_ := Aside0.mk (hp_); have n3_ := Aside0.mk (Kd.R_after (v := (.slice (some ⟨go37, 0, none⟩) x13_3.length co38)) (v1 := (.slice (some ⟨go37, 0, none⟩) x13_3.length co38)) (ok := (fun _ => True)) (by (with_reducible repeat (first | apply Kd.R_alloc | apply Kd.R_drewN | apply Kd.R_drew)); exact Kd.R_mono HO_15.out (fun _ hk => ⟨trivial, hk⟩)) hg (.inl rfl)); have n4_ := Aside0.mk ((by rw [hw]; exact below_set (HB.out) GB37.out : Below w.heap.size w w40)); clear HO_7; clear HO_10; clear HO_13; clear HO_15; clear HB; have HO_7 := n0_; have HO_10 := n1_; have HO_13 := n2_; have HO_15 := n3_; have HB := n4_; clear n0_ n1_ n2_ n3_ n4_; clear hg hw hp_))
                              go_roundg k3
                              case measure => have := HK1.out; have := HK2.out; have := HK3.out; omega
                              case rel => exact ⟨(y405), (wrap64 (x17_3 + 1)), (by first | rfl | (simp; done) | (simp [*]; done) | (simp [wrap64]; done)), H', ⟨by have := HK1.out; have := HK2.out; have := HK3.out; omega⟩, ⟨by (with_reducible repeat (first | apply Kd.R_alloc | apply Kd.R_drewN | apply Kd.R_drew)); exact HO_7.out⟩, ⟨by (with_reducible repeat (first | apply Kd.R_alloc | apply Kd.R_drewN | apply Kd.R_drew)); exact HO_10.out⟩, ⟨by (with_reducible repeat (first | apply Kd.R_alloc | apply Kd.R_drewN | apply Kd.R_drew)); exact HO_13.out⟩, ⟨by (with_reducible repeat (first | apply Kd.R_alloc | apply Kd.R_drewN | apply Kd.R_drew)); exact Kd.R_mono HO_15.out (fun _ hk => hk.2)⟩, ⟨by repeat (first | (with_reducible first | exact HB.out | apply below_alloc | apply pw_below_drewN | apply below_drew1) | exact HB.out)⟩⟩
                            · rw [if_neg c36] at H
                              exact absurd H (by simp)
                          · rw [if_neg c35] at H
                            have c35b0 : decide (x17_3 < (x13_3.length : Int)) = false := decide_eq_false c35
                            clear c35
                            have H' := Aside0.mk H
                            clear H
                            obtain ⟨Ao41, co41, eo41⟩ := Kd.R_slice HO_13.out
                            subst eo41
                            go_wp2
                            go_loopg [13, 18] k3 (fun kq v13 v18 w' => ∃ (x13_4 : List Int) (x18_4 : Int), v18 = .int .i64 x18_4 ∧ Aside0 (keystonelaw4_InstrOwn.l3 kq t382 y390 x13_4 t398 t401 t402 x18_4 = some r) ∧ Aside0 (kq ≤ k3) ∧ Aside0 (Kd.R k38 38 w' w.heap.size (fun k_ => some k_ ≠ (v391 : Value).ownBlock) (.slice Ao20 t382.length co20) t382) ∧ Aside0 (Kd.R k38 38 w' w.heap.size (fun k_ => some k_ ≠ ((.slice Ao20 t382.length co20) : Value).ownBlock) v391 y390) ∧ Aside0 (Kd.R (Kd.int .u8) 5 w' w.heap.size (fun k_ => some k_ ≠ (v403 : Value).ownBlock) v13 x13_4) ∧ Aside0 (Kd.R (Kd.int .u8) 5 w' w.heap.size (fun k_ => some k_ ≠ (v13 : Value).ownBlock) v403 t401) ∧ Aside0 (Below w.heap.size w w'))
                            case atStart => exact ⟨(x13_3), (0), (by first | rfl | (simp; done) | (simp [*]; done) | (simp [wrap64]; done)), H', ⟨Nat.le_refl _⟩, ⟨by (with_reducible repeat (first | apply Kd.R_alloc | apply Kd.R_drewN | apply Kd.R_drew)); exact HO_7.out⟩, ⟨by (with_reducible repeat (first | apply Kd.R_alloc | apply Kd.R_drewN | apply Kd.R_drew)); exact HO_10.out⟩, ⟨by (with_reducible repeat (first | apply Kd.R_alloc | apply Kd.R_drewN | apply Kd.R_drew)); exact HO_13.out⟩, ⟨by (with_reducible repeat (first | apply Kd.R_alloc | apply Kd.R_drewN | apply Kd.R_drew)); exact HO_15.out⟩, ⟨by repeat (first | (with_reducible first | exact HB.out | apply below_alloc | apply pw_below_drewN | apply below_drew1) | exact HB.out)⟩⟩
                            case round =>
                              clear H'
                              try clear c1
                              try clear c2
                              try clear p2
                              try clear q2
                              try clear hx2
                              try clear hf2
                              try clear c3
                              try clear p3
                              try clear q3
                              try clear hx3
                              try clear hf3
                              try clear c4
                              try clear c4b0
                              try clear c4b1
                              try clear c6
                              try clear p6
                              try clear c9
                              try clear c10
                              try clear c11
                              try clear c21
                              try clear c21b0
                              try clear c22
                              try clear c22b0
                              try clear c23
                              try clear p23
                              try clear q23
                              try clear hx23
                              try clear hf23
                              try clear c24
                              try clear c25
                              try clear hx25
                              try clear hf25
                              try clear c28
                              try clear c28b0
                              try clear c29
                              try clear c35
                              try clear c35b0
                              try clear c36
                              try clear c36b0
                              try clear p37
                              try clear q37
                              try clear hx37
                              try clear hf37
                              try clear hx23_0
                              try clear hx23_1
                              try clear hx23_2
                              try clear hx23_3
                              try clear hx25_0
                              try clear hx25_1
                              try clear hx25_2
                              try clear hx25_3
                              try clear hx37_0
                              try clear p2
                              try clear p23
                              try clear p37
                              try clear p6
                              try clear q2
                              try clear q23
                              try clear q37
                              obtain ⟨x13_4, x18_4, rfl, HA, HK4, HO_7, HO_10, HO_13, HO_15, HB⟩ := hrel
                              cases gk with
                              | zero => exact absurd HA.out (by simp [keystonelaw4_InstrOwn.l3])
                              | succ k4 =>
                                have H := HA.out
                                clear HA
                                simp only [keystonelaw4_InstrOwn.l3] at H
                                by_cases c42 : x18_4 < 20
                                · rw [if_pos c42] at H
                                  have c42b0 : decide (x18_4 < 20) = true := decide_eq_true c42
                                  clear c42
                                  by_cases c43 : x13_4.length < 140737488355328
                                  · rw [if_pos c43] at H
                                    have LMc43 := Aside0.mk c43
                                    clear c43
                                    obtain ⟨y406, hy406⟩ : ∃ y_ : List Int, y_ = (x13_4 ++ [78]) := ⟨_, rfl⟩
                                    replace H : (keystonelaw4_InstrOwn.l3 k4 t382 y390 y406 t398 t401 t402 (wrap64 (x18_4 + 1))) = some r := by first | (rw [hy406]; with_reducible exact H) | (have H2_ := (Option.bind_some _ _).symm.trans H; rw [hy406]; with_reducible exact H2_) | (have H2_ := (Option.bind_some _ _).symm.trans H; with_reducible exact H2_) | with_reducible exact H | (rw [hy406]; exact H) | exact H
                                    have Ny406 := Aside0.mk hy406
                                    clear hy406
                                    have H' := Aside0.mk H
                                    clear H
                                    go_wp2_with (first | ((with_reducible refine gate_builtin (b := .append) (xs := #[.tmp 85, .tmp 86]) rfl ?_); at_builtin; refine Kd.R_append (Kd.int .u8) (w0 := w) w.heap.size rfl (.tmp 85) (.tmp 86) 24 5 (.int .u8 0) 1 rfl Tryd.underlying24 info5 rfl (by decide) (by omega) u13 x13_4 78 [.int .u8 78] (fun k_ => some k_ ≠ (v403 : Value).ownBlock) (fun _ => False) rfl rfl ?aP (fun _ hk => hk.elim) ?aF ?aO ?aB ?aS ?aL ?_; (case aP => exact rfl); (case aB => exact (by repeat (first | (with_reducible first | exact HB.out | apply below_alloc | apply pw_below_drewN | apply below_drew1) | exact HB.out))); (case aF => exact (fun k_ hk => Kd.fresh' (Kd.R_lt (by (with_reducible repeat (first | apply Kd.R_alloc | apply Kd.R_drewN | apply Kd.R_drew)); exact HO_15.out)) k_ hk)); (case aO => exact (by (with_reducible repeat (first | apply Kd.R_alloc | apply Kd.R_drewN | apply Kd.R_drew)); exact HO_13.out)); (case aS => exact (below_size (by repeat (first | (with_reducible first | exact HB.out | apply below_alloc | apply pw_below_drewN | apply below_drew1) | exact HB.out)))); (case aL => have := LMc43.out; omega); intro v407 w44 ho hb hg hat; rw [← Ny406.out] at ho; have n0_ := Aside0.mk (Kd.R_over' (by (with_reducible repeat (first | apply Kd.R_alloc | apply Kd.R_drewN | apply Kd.R_drew)); exact HO_7.out) (Kd.R_typed (by (with_reducible repeat (first | apply Kd.R_alloc | apply Kd.R_drewN | apply Kd.R_drew)); exact HO_13.out)) (by decide) hg); have n1_ := Aside0.mk (Kd.R_over' (by (with_reducible repeat (first | apply Kd.R_alloc | apply Kd.R_drewN | apply Kd.R_drew)); exact HO_10.out) (Kd.R_typed (by (with_reducible repeat (first | apply Kd.R_alloc | apply Kd.R_drewN | apply Kd.R_drew)); exact HO_13.out)) (by decide) hg); have n2_ := Aside0.mk (Kd.R_after (ok := (fun _ => True)) (by (with_reducible repeat (first | apply Kd.R_alloc | apply Kd.R_drewN | apply Kd.R_drew)); exact Kd.R_mono HO_15.out (fun _ hk => ⟨trivial, hk⟩)) hg hat); have n3_ := Aside0.mk (hb); have n4_ := Aside0.mk (ho); clear HO_7; clear HO_10; clear HO_15; clear HB; clear HO_13; have HO_7 := n0_; have HO_10 := n1_; have HO_15 := n2_; have HB := n3_; have HO408 := n4_; clear n0_ n1_ n2_ n3_ n4_; clear ho hb hg hat))
                                    go_roundg k4
                                    case measure => have := HK1.out; have := HK2.out; have := HK3.out; have := HK4.out; omega
                                    case rel => exact ⟨(y406), (wrap64 (x18_4 + 1)), (by first | rfl | (simp; done) | (simp [*]; done) | (simp [wrap64]; done)), H', ⟨by have := HK1.out; have := HK2.out; have := HK3.out; have := HK4.out; omega⟩, ⟨by (with_reducible repeat (first | apply Kd.R_alloc | apply Kd.R_drewN | apply Kd.R_drew)); exact HO_7.out⟩, ⟨by (with_reducible repeat (first | apply Kd.R_alloc | apply Kd.R_drewN | apply Kd.R_drew)); exact HO_10.out⟩, ⟨by (with_reducible repeat (first | apply Kd.R_alloc | apply Kd.R_drewN | apply Kd.R_drew)); exact HO408.out⟩, ⟨by (with_reducible repeat (first | apply Kd.R_alloc | apply Kd.R_drewN | apply Kd.R_drew)); exact Kd.R_mono HO_15.out (fun _ hk => hk.2)⟩, ⟨by repeat (first | (with_reducible first | exact HB.out | apply below_alloc | apply pw_below_drewN | apply below_drew1) | exact HB.out)⟩⟩
                                  · rw [if_neg c43] at H
                                    exact absurd H (by simp)
                                · rw [if_neg c42] at H
                                  have c42b0 : decide (x18_4 < 20) = false := decide_eq_false c42
                                  clear c42
                                  replace H := Option.bind_eq_some_iff.mp H
                                  obtain ⟨⟨t409, t410⟩, A450, H⟩ := H
                                  replace H : ((keystonelaw4_Same.f k4 t382 y390).bind fun t413 => (if t413 = true then (if t398 = t402 then (if t402 = t410 then (some ((strOfNums t401).toList == (strOfNums t409).toList)) else (some false)) else (some false)) else (some false))) = some r := H
                                  have A45 := Aside0.mk A450
                                  clear A450
                                  replace H := Option.bind_eq_some_iff.mp H
                                  obtain ⟨t413, A460, H⟩ := H
                                  replace H : (if t413 = true then (if t398 = t402 then (if t402 = t410 then (some ((strOfNums t401).toList == (strOfNums t409).toList)) else (some false)) else (some false)) else (some false)) = some r := H
                                  have A46 := Aside0.mk A460
                                  clear A460
                                  by_cases c47 : t413 = true
                                  · subst c47
                                    have H1 : (if t398 = t402 then (if t402 = t410 then (some ((strOfNums t401).toList == (strOfNums t409).toList)) else (some false)) else (some false)) = some r := by rw [if_pos rfl] at H; exact H
                                    clear H
                                    have H := H1
                                    clear H1
                                    by_cases c48 : t398 = t402
                                    · rw [if_pos c48] at H
                                      have c48b0 : (t398 == t402) = true := beq_iff_eq.mpr c48
                                      have c48b1 : (t398 != t402) = false := bne_eq_false_iff_eq.mpr c48
                                      clear c48
                                      by_cases c49 : t402 = t410
                                      · rw [if_pos c49] at H
                                        have c49b0 : (t402 == t410) = true := beq_iff_eq.mpr c49
                                        have c49b1 : (t402 != t410) = false := bne_eq_false_iff_eq.mpr c49
                                        clear c49
                                        obtain rfl := Option.some.inj H
                                        obtain ⟨Ao50, co50, eo50⟩ := Kd.R_slice HO_10.out
                                        subst eo50
                                        go_wp2_with (first | ((with_reducible refine gate_callee (f := 11) rfl ?_); refine goesL_ (some 90) rfl rfl Tryd.func11 (by kernel_rfl) rfl #[.slice Ao50 y390.length co50] rfl (by (try simp only [List.map_toArray, List.map_cons, List.map_nil]); first | done | rfl | (simp only [List.length_drop, List.length_take]; rfl)) ?_; (with_reducible refine (instr_Encode.calls k4 _ _ y390 t409 t410 _ ?side1 ?side2 A45.out).mono ?_); (case side1 => repeat (first | exact (Kd.R_reads' HO_10.out).2.2 | (with_reducible refine Kd.C_alloc ?_ _) | (with_reducible refine Kd.C_drewN ?_ _) | (with_reducible refine Kd.C_drew ?_))); (case side2 => exact (Kd.R_reads' HO_10.out).2.1); rintro e w51 ⟨v411, rfl, ho0, hb⟩; refine ⟨_, rfl, ?_⟩; have n0_ := Aside0.mk (Kd.R_below (by (with_reducible repeat (first | apply Kd.R_alloc | apply Kd.R_drewN | apply Kd.R_drew)); exact HO_7.out) hb); have n1_ := Aside0.mk (Kd.R_below (by (with_reducible repeat (first | apply Kd.R_alloc | apply Kd.R_drewN | apply Kd.R_drew)); exact HO_10.out) hb); have n2_ := Aside0.mk (Kd.R_elder' (by (with_reducible repeat (first | apply Kd.R_alloc | apply Kd.R_drewN | apply Kd.R_drew)); exact HO_13.out) (Kd.R_base ho0) hb); have n3_ := Aside0.mk (Kd.R_elder' (by (with_reducible repeat (first | apply Kd.R_alloc | apply Kd.R_drewN | apply Kd.R_drew)); exact HO_15.out) (Kd.R_base ho0) hb); have n4_ := Aside0.mk (Kd.R_lower (Kd.R_new' (Kd.R_new' ho0 (Kd.R_lt (by (with_reducible repeat (first | apply Kd.R_alloc | apply Kd.R_drewN | apply Kd.R_drew)); exact HO_13.out))) (Kd.R_lt (by (with_reducible repeat (first | apply Kd.R_alloc | apply Kd.R_drewN | apply Kd.R_drew)); exact HO_15.out))) (below_size (by repeat (first | (with_reducible first | exact HB.out | apply below_alloc | apply pw_below_drewN | apply below_drew1) | exact HB.out)))); have n5_ := Aside0.mk (below_step (by repeat (first | (with_reducible first | exact HB.out | apply below_alloc | apply pw_below_drewN | apply below_drew1) | exact HB.out)) hb); clear HO_7; clear HO_10; clear HO_13; clear HO_15; clear HB; have HO_7 := n0_; have HO_10 := n1_; have HO_13 := n2_; have HO_15 := n3_; have HO412 := n4_; have HB := n5_; clear n0_ n1_ n2_ n3_ n4_ n5_; (try clear hb); (try clear hb2); (try clear hk); (try clear hi); (try clear ho0)) | ((with_reducible refine gate_callee (f := 13) rfl ?_); refine goesL_ (some 95) rfl rfl Tryd.func13 (by kernel_rfl) rfl #[.slice Ao20 t382.length co20, .slice Ao50 y390.length co50] rfl (by (try simp only [List.map_toArray, List.map_cons, List.map_nil]); first | done | rfl | (simp only [List.length_drop, List.length_take]; rfl)) ?_; (with_reducible refine (keystonelaw4_Same.calls k4 _ _ t382 _ _ y390 true _ ?side1 ?side2 ?side3 ?side4 A46.out).mono ?_); (case side1 => repeat (first | exact (Kd.R_reads' HO_7.out).2.2 | (with_reducible refine Kd.C_alloc ?_ _) | (with_reducible refine Kd.C_drewN ?_ _) | (with_reducible refine Kd.C_drew ?_))); (case side2 => exact (Kd.R_reads' HO_7.out).2.1); (case side3 => repeat (first | exact (Kd.R_reads' HO_10.out).2.2 | (with_reducible refine Kd.C_alloc ?_ _) | (with_reducible refine Kd.C_drewN ?_ _) | (with_reducible refine Kd.C_drew ?_))); (case side4 => exact (Kd.R_reads' HO_10.out).2.1); rintro e w' ⟨rfl, ⟨nd, rfl⟩⟩; refine ⟨_, rfl, ?_⟩; (try (rw [drewN_self w51]; generalize hq_ : World.drewN w51 _ = w51; have n0_ : Aside0 (Kd.R (Kd.int .u8) 5 w51 w.heap.size (fun k_ => some k_ ≠ (u13 : Value).ownBlock ∧ some k_ ≠ (v403 : Value).ownBlock) v411 t409) := ⟨by rw [← hq_]; exact (by (with_reducible repeat (first | apply Kd.R_alloc | apply Kd.R_drewN | apply Kd.R_drew)); exact Kd.R_mono HO412.out (fun _ hk => ⟨hk.1.2, hk.2⟩))⟩; have n1_ : Aside0 (Kd.R k38 38 w51 w.heap.size (fun k_ => some k_ ≠ (.slice Ao20 t382.length co20 : Value).ownBlock) (.slice Ao50 y390.length co50) y390) := ⟨by rw [← hq_]; exact (by (with_reducible repeat (first | apply Kd.R_alloc | apply Kd.R_drewN | apply Kd.R_drew)); exact HO_10.out)⟩; have n2_ : Aside0 (Kd.R (Kd.int .u8) 5 w51 w.heap.size (fun k_ => some k_ ≠ (v411 : Value).ownBlock ∧ some k_ ≠ (v403 : Value).ownBlock) u13 x13_4) := ⟨by rw [← hq_]; exact (by (with_reducible repeat (first | apply Kd.R_alloc | apply Kd.R_drewN | apply Kd.R_drew)); exact Kd.R_mono HO_13.out (fun _ hk => ⟨hk.2, hk.1⟩))⟩; have n3_ : Aside0 (Kd.R (Kd.int .u8) 5 w51 w.heap.size (fun k_ => some k_ ≠ (v411 : Value).ownBlock ∧ some k_ ≠ (u13 : Value).ownBlock) v403 t401) := ⟨by rw [← hq_]; exact (by (with_reducible repeat (first | apply Kd.R_alloc | apply Kd.R_drewN | apply Kd.R_drew)); exact Kd.R_mono HO_15.out (fun _ hk => ⟨hk.2, hk.1⟩))⟩; have n4_ : Aside0 (Kd.R k38 38 w51 w.heap.size (fun k_ => some k_ ≠ (.slice Ao50 y390.length co50 : Value).ownBlock) (.slice Ao20 t382.length co20) t382) := ⟨by rw [← hq_]; exact (by (with_reducible repeat (first | apply Kd.R_alloc | apply Kd.R_drewN | apply Kd.R_drew)); exact HO_7.out)⟩; have n5_ : Aside0 (Below w.heap.size w w51) := ⟨by rw [← hq_]; exact (by repeat (first | (with_reducible first | exact HB.out | apply below_alloc | apply pw_below_drewN | apply below_drew1) | exact HB.out))⟩; clear HO412 HO_10 HO_13 HO_15 HO_7 HB hq_; have HO412 := n0_; have HO_10 := n1_; have HO_13 := n2_; have HO_15 := n3_; have HO_7 := n4_; have HB := n5_; clear n0_ n1_ n2_ n3_ n4_ n5_)); have hcv52 := own_string (P := Tryd.prog) Tryd.underlying24 Tryd.underlying5 Tryd.underlying9 (Kd.own_of_R HO_15.out); have hcv53 := own_string (P := Tryd.prog) Tryd.underlying24 Tryd.underlying5 Tryd.underlying9 (Kd.own_of_R HO412.out)))
                                        go_ret
                                        exact ⟨by first | rfl | (simp [errW_none, errW_some] <;> rfl) | (simp [*, errW_none, errW_some] <;> rfl), by repeat (first | (with_reducible first | exact HB.out | apply below_alloc | apply pw_below_drewN | apply below_drew1) | exact HB.out)⟩
                                      · rw [if_neg c49] at H
                                        have c49b0 : (t402 == t410) = false := beq_eq_false_iff_ne.mpr c49
                                        have c49b1 : (t402 != t410) = true := bne_iff_ne.mpr c49
                                        obtain rfl := Option.some.inj H
                                        exact absurd HT.out (by decide)
                                    · rw [if_neg c48] at H
                                      have c48b0 : (t398 == t402) = false := beq_eq_false_iff_ne.mpr c48
                                      have c48b1 : (t398 != t402) = true := bne_iff_ne.mpr c48
                                      obtain rfl := Option.some.inj H
                                      exact absurd HT.out (by decide)
                                  · replace c47 := Bool.eq_false_iff.mpr c47
                                    subst c47
                                    have H1 : (some false) = some r := by rw [if_neg (show ¬ (false = true) by decide)] at H; exact H
                                    clear H
                                    have H := H1
                                    clear H1
                                    obtain rfl := Option.some.inj H
                                    exact absurd HT.out (by decide)
        · rw [if_neg c9] at H
          exact absurd H (by simp)
      · rw [if_neg c6] at H
        exact absurd H (by simp)
  · replace c3 := Bool.eq_false_iff.mpr c3
    subst c3
    have H1 : (some false) = some r := by rw [if_neg (show ¬ (false = true) by decide)] at H; exact H
    clear H
    have H := H1
    clear H1
    obtain rfl := Option.some.inj H
    exact absurd HT.out (by decide)

end Go.Proofs.YtndpdelkhmaliaaDoor.P
