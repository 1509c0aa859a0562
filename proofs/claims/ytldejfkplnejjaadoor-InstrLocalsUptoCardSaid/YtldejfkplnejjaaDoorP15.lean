-- Written by my program xprint.py (a patched run of the kit's print). Lean checks it.
import Derived.Test.YtldejfkplnejjaaDoorP0
import Derived.Test.YtldejfkplnejjaaDoorP13
import Derived.Test.YtldejfkplnejjaaDoorP14
import Derived.Test.YtldejfkplnejjaaDoorExt
import Derived.Test.YtldejfkplnejjaaDoorShort
namespace Go.Proofs.YtldejfkplnejjaaDoor.P
open Go.RowKit Go.Proofs.YtldejfkplnejjaaDoorW.PrintWords Go.Proofs.YtldejfkplnejjaaDoorW.PrintLast Go.Proofs.YtldejfkplnejjaaDoorW.PrintMore
attribute [local go_sem] max2_int min2_int max_two min_two max_three min_three max_four min_four   -- for this text's walks alone
set_option linter.unusedVariables false
set_option linter.unusedSimpArgs false

/-! ### keystonelaw4_InstrLocals: function 12 -/
mutual
def keystonelaw4_InstrLocals.j0 : Nat → List Int → List (S50) → Int → Bool → Option (Bool)
  | 0, _, _, _, _ => none
  | k + 1, x0, x1, x2, x25 => if x25 = true then (some true) else ((instr_Check.f k x0 x1 256).bind fun bt460 => ((instr_All.f k x0).bind fun bt462 => (keystonelaw4_InstrLocals.l0 k x0 x1 x2 bt460.2 bt462.1 0 0)))
def keystonelaw4_InstrLocals.l0 : Nat → List Int → List (S50) → Int → Int → List (S77) → Int → Int → Option (Bool)
  | 0, _, _, _, _, _, _, _ => none
  | k + 1, x0, x1, x2, x8, x9, x12, x13 => if x13 < (x9.length : Int) then (if 0 ≤ x13 then (if ((rd_T77 x9 x13).f1) = 3 then (keystonelaw4_InstrLocals.l0 k x0 x1 x2 x8 x9 (mx x12 (wrap64 (((rd_T77 x9 x13).f2) + 1))) (wrap64 (x13 + 1))) else (if ((rd_T77 x9 x13).f1) = 4 then (keystonelaw4_InstrLocals.l0 k x0 x1 x2 x8 x9 (mx x12 (wrap64 (((rd_T77 x9 x13).f2) + 1))) (wrap64 (x13 + 1))) else (keystonelaw4_InstrLocals.l0 k x0 x1 x2 x8 x9 x12 (wrap64 (x13 + 1))))) else (none)) else (if x8 = 0 then ((instr_Check.f k x0 x1 x2).bind fun bt471 => (if x12 = 0 then (if ((bt471.2 == 0) == true) = true then (if bt471.2 = 0 then (some true) else (some (bt471.2 == 43))) else (some false)) else (if ((bt471.2 == 0) == (decide (x2 ≥ x12))) = true then (if bt471.2 = 0 then (some true) else (some (bt471.2 == 43))) else (some false)))) else (some true))
end
def keystonelaw4_InstrLocals.f (k : Nat) (l0 : List Int) (l1 : List (S50)) (a2 : Int) : Option (Bool) := (keystonelaw4_known.f k).bind fun t459 => (if t459 = true then (if (l0.length : Int) > 1100 then (keystonelaw4_InstrLocals.j0 k l0 l1 a2 true) else (keystonelaw4_InstrLocals.j0 k l0 l1 a2 (decide ((l1.length : Int) > 400)))) else (some false))
theorem keystonelaw4_InstrLocals.mono_l : ∀ k, (∀ y0 y1 y2 y3, LeO (keystonelaw4_InstrLocals.j0 k y0 y1 y2 y3) (keystonelaw4_InstrLocals.j0 (k + 1) y0 y1 y2 y3)) ∧ (∀ y0 y1 y2 y3 y4 y5 y6, LeO (keystonelaw4_InstrLocals.l0 k y0 y1 y2 y3 y4 y5 y6) (keystonelaw4_InstrLocals.l0 (k + 1) y0 y1 y2 y3 y4 y5 y6))
  | 0 => ⟨fun _ _ _ _ r h => by simp [keystonelaw4_InstrLocals.j0] at h, fun _ _ _ _ _ _ _ r h => by simp [keystonelaw4_InstrLocals.l0] at h⟩
  | k + 1 => by
    obtain ⟨ih0, ih1⟩ := keystonelaw4_InstrLocals.mono_l k
    refine ⟨?_, ?_⟩
    · intro y0 y1 y2 y3
      unfold keystonelaw4_InstrLocals.j0
      repeat' first
      | (with_reducible exact ih0 _ _ _ _)
      | (with_reducible exact ih1 _ _ _ _ _ _ _)
      | (with_reducible exact instr_All.mono _ _)
      | (with_reducible exact instr_Check.mono _ _ _ _)
      | (with_reducible exact keystonelaw4_known.mono _)
      | (with_reducible exact LeO.refl _)
      | (with_reducible exact LeO.none _)
      | (with_reducible refine LeO.ite ?_ ?_)
      | (with_reducible refine LeO.bind ?_ (fun _ => ?_))
      | exact ih0 _ _ _ _
      | exact ih1 _ _ _ _ _ _ _
      | exact instr_All.mono _ _
      | exact instr_Check.mono _ _ _ _
      | exact keystonelaw4_known.mono _
      | exact LeO.none _
      | refine LeO.ite ?_ ?_
      | refine LeO.bind ?_ (fun _ => ?_)
    · intro y0 y1 y2 y3 y4 y5 y6
      unfold keystonelaw4_InstrLocals.l0
      repeat' first
      | (with_reducible exact ih0 _ _ _ _)
      | (with_reducible exact ih1 _ _ _ _ _ _ _)
      | (with_reducible exact instr_All.mono _ _)
      | (with_reducible exact instr_Check.mono _ _ _ _)
      | (with_reducible exact keystonelaw4_known.mono _)
      | (with_reducible exact LeO.refl _)
      | (with_reducible exact LeO.none _)
      | (with_reducible refine LeO.ite ?_ ?_)
      | (with_reducible refine LeO.bind ?_ (fun _ => ?_))
      | exact ih0 _ _ _ _
      | exact ih1 _ _ _ _ _ _ _
      | exact instr_All.mono _ _
      | exact instr_Check.mono _ _ _ _
      | exact keystonelaw4_known.mono _
      | exact LeO.none _
      | refine LeO.ite ?_ ?_
      | refine LeO.bind ?_ (fun _ => ?_)
theorem keystonelaw4_InstrLocals.mono : ∀ a0 a1 a2 k, LeO (keystonelaw4_InstrLocals.f k a0 a1 a2) (keystonelaw4_InstrLocals.f (k + 1) a0 a1 a2) := by
  intro a0 a1 a2 k
  obtain ⟨ih0, ih1⟩ := keystonelaw4_InstrLocals.mono_l k
  unfold keystonelaw4_InstrLocals.f
  repeat' first
      | (with_reducible exact ih0 _ _ _ _)
      | (with_reducible exact ih1 _ _ _ _ _ _ _)
      | (with_reducible exact instr_All.mono _ _)
      | (with_reducible exact instr_Check.mono _ _ _ _)
      | (with_reducible exact keystonelaw4_known.mono _)
      | (with_reducible exact LeO.refl _)
      | (with_reducible exact LeO.none _)
      | (with_reducible refine LeO.ite ?_ ?_)
      | (with_reducible refine LeO.bind ?_ (fun _ => ?_))
      | exact ih0 _ _ _ _
      | exact ih1 _ _ _ _ _ _ _
      | exact instr_All.mono _ _
      | exact instr_Check.mono _ _ _ _
      | exact keystonelaw4_known.mono _
      | exact LeO.none _
      | refine LeO.ite ?_ ?_
      | refine LeO.bind ?_ (fun _ => ?_)
set_option maxHeartbeats 8000000 in
set_option maxRecDepth 100000 in
theorem keystonelaw4_InstrLocals.calls (k : Nat) (A0 : Option Addr) (c0 : Nat) (l0 : List Int) (A1 : Option Addr) (c1 : Nat) (l1 : List (S50)) (a2 : Int) (r : Bool) (w : World) (hr0 : Kd.C (Kd.int .u8) w A0 l0.length l0) (hc0 : l0.length ≤ c0) (hr1 : Kd.C k50 w A1 l1.length l1) (hc1 : l1.length ≤ c1) (hG : Glob w) (hT : r = true) (h : keystonelaw4_InstrLocals.f k l0 l1 a2 = some r) :
    Calls Tryd.prog 12 #[.slice A0 l0.length c0, .slice A1 l1.length c1, .int .i64 a2] w fun e w' => e = .returned (.bool r) ∧ Below w.heap.size w w' := by
  have HR0 := Aside0.mk hr0
  have HC0 := Aside0.mk hc0
  clear hr0 hc0
  have HR1 := Aside0.mk hr1
  have HC1 := Aside0.mk hc1
  clear hr1 hc1
  have HB := Aside0.mk (Below.refl w.heap.size w)
  have H : ((keystonelaw4_known.f k).bind fun t459 => (if t459 = true then (if (l0.length : Int) > 1100 then (keystonelaw4_InstrLocals.j0 k l0 l1 a2 true) else (keystonelaw4_InstrLocals.j0 k l0 l1 a2 (decide ((l1.length : Int) > 400)))) else (some false))) = some r := h
  clear h
  have HG := Aside0.mk hG
  clear hG
  have HT := Aside0.mk hT
  clear hT
  replace H := Option.bind_eq_some_iff.mp H
  obtain ⟨t459, A40, H⟩ := H
  replace H : (if t459 = true then (if (l0.length : Int) > 1100 then (keystonelaw4_InstrLocals.j0 k l0 l1 a2 true) else (keystonelaw4_InstrLocals.j0 k l0 l1 a2 (decide ((l1.length : Int) > 400)))) else (some false)) = some r := H
  have A4 := Aside0.mk A40
  clear A40
  by_cases c5 : t459 = true
  · subst c5
    have H1 : (if (l0.length : Int) > 1100 then (keystonelaw4_InstrLocals.j0 k l0 l1 a2 true) else (keystonelaw4_InstrLocals.j0 k l0 l1 a2 (decide ((l1.length : Int) > 400)))) = some r := by rw [if_pos rfl] at H; exact H
    clear H
    have H := H1
    clear H1
    have HC6 := Aside0.mk H
    clear H
    go_enter Tryd.func12, Tryd.ntmps12
    go_upto_region 3 with (first | ((with_reducible refine gate_callee (f := 32) rfl ?_); refine goesL_ (some 16) rfl rfl Tryd.func32 (by kernel_rfl) rfl #[] rfl (by (try simp only [List.map_toArray, List.map_cons, List.map_nil]); first | done | rfl | (simp only [List.length_drop, List.length_take]; rfl)) ?_; (with_reducible refine (keystonelaw4_known.calls k  true _ ?side1 A4.out).mono ?_); (case side1 => exact HG.out.below B_); rintro e w7 ⟨rfl, hb⟩; refine ⟨_, rfl, ?_⟩; have n0_ := Aside0.mk (below_step B_ hb); clear HB; have HB := n0_; clear n0_; (try clear hb); (try clear hb2); (try clear hk); (try clear hi)))
    (try simp only [Act.put, List.setIfInBounds_toArray, List.set_cons_zero, List.set_cons_succ])
    go_cut [25] (fun v25 wc => ∃ (kq : Nat) (x25_5 : Bool), v25 = .bool x25_5 ∧ Aside0 (keystonelaw4_InstrLocals.j0 kq l0 l1 a2 x25_5 = some r) ∧ Aside0 (kq ≤ k) ∧ Aside0 (Below w.heap.size w wc))
    case first =>
      have H := HC6.out
      clear HC6
      by_cases c8 : (l0.length : Int) > 1100
      · rw [if_pos c8] at H
        have c8b0 : decide (1100 < (l0.length : Int)) = true := decide_eq_true c8
        have c8b1 : decide (1100 < l0.length) = true := decide_eq_true (by omega)
        clear c8
        (first | rw [c8b0] | (simp only [i64_w, i32_w]; rw [c8b0]) | skip)
        have H' := Aside0.mk H
        clear H
        go_wp2
        go_meet
        case rel => exact ⟨_, (true), R_, H', ⟨by first | omega | exact Nat.le_refl _⟩, ⟨B_⟩⟩
      · rw [if_neg c8] at H
        have c8b0 : decide (1100 < (l0.length : Int)) = false := decide_eq_false c8
        have c8b1 : decide (1100 < l0.length) = false := decide_eq_false (by omega)
        clear c8
        (first | rw [c8b0] | (simp only [i64_w, i32_w]; rw [c8b0]) | skip)
        have H' := Aside0.mk H
        clear H
        go_wp2
        go_meet
        case rel => exact ⟨_, (decide ((l1.length : Int) > 400)), R_, H', ⟨by first | omega | exact Nat.le_refl _⟩, ⟨B_⟩⟩
    case rest =>
      clear HC6
      try clear c1
      try clear p2
      try clear c3
      try clear c5
      try clear c8
      try clear c8b0
      try clear c8b1
      obtain ⟨kq, x25_5, rfl, HA, HJ5, HB⟩ := hcut
      cases kq with
      | zero => exact absurd HA.out (by simp [keystonelaw4_InstrLocals.j0])
      | succ kj5 =>
        have H := HA.out
        clear HA
        simp only [keystonelaw4_InstrLocals.j0] at H
        by_cases c9 : x25_5 = true
        · subst c9
          have H1 : (some true) = some r := by rw [if_pos rfl] at H; exact H
          clear H
          have H := H1
          clear H1
          obtain rfl := Option.some.inj H
          go_wp2
          go_ret
          exact ⟨by first | rfl | (simp [errW_none, errW_some] <;> rfl) | (simp [*, errW_none, errW_some] <;> rfl), B_⟩
        · replace c9 := Bool.eq_false_iff.mpr c9
          subst c9
          have H1 : ((instr_Check.f kj5 l0 l1 256).bind fun bt460 => ((instr_All.f kj5 l0).bind fun bt462 => (keystonelaw4_InstrLocals.l0 kj5 l0 l1 a2 bt460.2 bt462.1 0 0))) = some r := by rw [if_neg (show ¬ (false = true) by decide)] at H; exact H
          clear H
          have H := H1
          clear H1
          replace H := Option.bind_eq_some_iff.mp H
          obtain ⟨⟨t460, t461⟩, A100, H⟩ := H
          replace H : ((instr_All.f kj5 l0).bind fun bt462 => (keystonelaw4_InstrLocals.l0 kj5 l0 l1 a2 t461 bt462.1 0 0)) = some r := H
          have A10 := Aside0.mk A100
          clear A100
          replace H := Option.bind_eq_some_iff.mp H
          obtain ⟨⟨t462, t463, t464⟩, A110, H⟩ := H
          replace H : (keystonelaw4_InstrLocals.l0 kj5 l0 l1 a2 t461 t462 0 0) = some r := H
          have A11 := Aside0.mk A110
          clear A110
          have H' := Aside0.mk H
          clear H
          go_wp2_with (first | ((with_reducible refine gate_callee (f := 33) rfl ?_); refine goesL_ (some 29) rfl rfl Tryd.func33 (by kernel_rfl) rfl #[.slice A0 l0.length c0, .slice A1 l1.length c1, .int .i64 256] rfl (by (try simp only [List.map_toArray, List.map_cons, List.map_nil]); first | done | rfl | (simp only [List.length_drop, List.length_take]; rfl)) ?_; (with_reducible refine (instr_Check.calls kj5 _ _ l0 _ _ l1 256 t460 t461 _ ?side1 ?side2 ?side3 ?side4 A10.out).mono ?_); (case side1 => repeat (first | exact (Kd.C_below HR0.out HB.out) | (with_reducible refine Kd.C_alloc ?_ _) | (with_reducible refine Kd.C_drewN ?_ _) | (with_reducible refine Kd.C_drew ?_))); (case side2 => exact HC0.out); (case side3 => repeat (first | exact (Kd.C_below HR1.out HB.out) | (with_reducible refine Kd.C_alloc ?_ _) | (with_reducible refine Kd.C_drewN ?_ _) | (with_reducible refine Kd.C_drew ?_))); (case side4 => exact HC1.out); rintro e w12 ⟨rfl, hb⟩; refine ⟨_, rfl, ?_⟩; have n0_ := Aside0.mk (below_step B_ hb); clear HB; have HB := n0_; clear n0_; (try clear hb); (try clear hb2); (try clear hk); (try clear hi)) | ((with_reducible refine gate_callee (f := 35) rfl ?_); refine goesL_ (some 34) rfl rfl Tryd.func35 (by kernel_rfl) rfl #[.slice A0 l0.length c0] rfl (by (try simp only [List.map_toArray, List.map_cons, List.map_nil]); first | done | rfl | (simp only [List.length_drop, List.length_take]; rfl)) ?_; (with_reducible refine (instr_All.calls kj5 _ _ l0 t462 t463 t464 _ ?side1 ?side2 A11.out).mono ?_); (case side1 => repeat (first | exact (Kd.C_below HR0.out HB.out) | (with_reducible refine Kd.C_alloc ?_ _) | (with_reducible refine Kd.C_drewN ?_ _) | (with_reducible refine Kd.C_drew ?_))); (case side2 => exact HC0.out); rintro e w13 ⟨v465, rfl, ho0, hb⟩; refine ⟨_, rfl, ?_⟩; have n0_ := Aside0.mk (Kd.R_lower ho0 (below_size B_)); have n1_ := Aside0.mk (below_step B_ hb); clear HB; have HO466 := n0_; have HB := n1_; clear n0_ n1_; (try clear hb); (try clear hb2); (try clear hk); (try clear hi); (try clear ho0)))
          go_loopg [12, 13] kj5 (fun kq v12 v13 w' => ∃ (x12_2 : Int) (x13_2 : Int), v12 = .int .i64 x12_2 ∧ v13 = .int .i64 x13_2 ∧ Aside0 (keystonelaw4_InstrLocals.l0 kq l0 l1 a2 t461 t462 x12_2 x13_2 = some r) ∧ Aside0 (kq ≤ kj5) ∧ Aside0 (Kd.R k77 77 w' w.heap.size (fun _ => True) v465 t462) ∧ Aside0 (Below w.heap.size w w'))
          case atStart => exact ⟨(0), (0), R_, R_, H', ⟨Nat.le_refl _⟩, ⟨by (with_reducible repeat (first | apply Kd.R_alloc | apply Kd.R_drewN | apply Kd.R_drew)); exact HO466.out⟩, ⟨B_⟩⟩
          case round =>
            clear H'
            try clear c1
            try clear p2
            try clear c3
            try clear c5
            try clear c8
            try clear c8b0
            try clear c8b1
            try clear c9
            try clear c12
            try clear p2
            obtain ⟨x12_2, x13_2, rfl, rfl, HA, HK2, HO_9, HB⟩ := hrel
            cases gk with
            | zero => exact absurd HA.out (by simp [keystonelaw4_InstrLocals.l0])
            | succ k2 =>
              have H := HA.out
              clear HA
              simp only [keystonelaw4_InstrLocals.l0] at H
              by_cases c14 : x13_2 < (t462.length : Int)
              · rw [if_pos c14] at H
                have c14b0 : decide (x13_2 < (t462.length : Int)) = true := decide_eq_true c14
                clear c14
                by_cases c15 : 0 ≤ x13_2
                · rw [if_pos c15] at H
                  have c15b0 : decide (0 ≤ x13_2) = true := decide_eq_true c15
                  clear c15
                  by_cases c16 : ((rd_T77 t462 x13_2).f1) = 3
                  · rw [if_pos c16] at H
                    have c16b0 : (((rd_T77 t462 x13_2).f1) == 3) = true := beq_iff_eq.mpr c16
                    have c16b1 : (((rd_T77 t462 x13_2).f1) != 3) = false := bne_eq_false_iff_eq.mpr c16
                    clear c16
                    obtain ⟨ji17, hji17⟩ : ∃ j_ : Int, (mx x12_2 (wrap64 (((rd_T77 t462 x13_2).f2) + 1))) = j_ := ⟨_, rfl⟩
                    replace H : (keystonelaw4_InstrLocals.l0 k2 l0 l1 a2 t461 t462 ji17 (wrap64 (x13_2 + 1))) = some r := by first | (rw [hji17] at H; exact H) | (simp only [hji17] at H ⊢; exact H)
                    have hji17_ : (if x12_2 < (wrap64 (((rd_T77 t462 x13_2).f2) + 1)) then (wrap64 (((rd_T77 t462 x13_2).f2) + 1)) else x12_2) = ji17 := hji17
                    have H' := Aside0.mk H
                    clear H
                    obtain ⟨Ao18, co18, eo18⟩ := Kd.R_slice HO_9.out
                    subst eo18
                    have p467 : 0 ≤ (x13_2 : Int) := of_decide_eq_true (by first | (with_reducible assumption) | assumption)
                    have q467 : x13_2 < (t462.length : Int) := of_decide_eq_true (by first | (with_reducible assumption) | assumption)
                    obtain ⟨ad467, e467, hx467_0, hx467_1, hx467_2, hx467_3⟩ := at_T77 (Kd.R_reads' HO_9.out).2.2 x13_2 p467 q467
                    cases e467
                    replace p467 := eq_true p467
                    replace q467 := eq_true q467
                    have p468 : 0 ≤ (x13_2 : Int) := of_decide_eq_true (by first | (with_reducible assumption) | assumption)
                    have q468 : x13_2 < (t462.length : Int) := of_decide_eq_true (by first | (with_reducible assumption) | assumption)
                    obtain ⟨ad468, e468, hx468_0, hx468_1, hx468_2, hx468_3⟩ := at_T77 (Kd.R_reads' HO_9.out).2.2 x13_2 p468 q468
                    obtain rfl : ad467 = ad468 := (by injection e468)
                    replace p468 := eq_true p468
                    replace q468 := eq_true q468
                    go_wp2
                    go_roundg k2
                    case measure => have := HJ5.out; have := HK2.out; omega
                    case rel => exact ⟨(ji17), (wrap64 (x13_2 + 1)), (by first | rfl | (simp; done) | (simp only [← hji17] <;> (first | rfl | simp)) | (simp [*]; done)), R_, H', ⟨by have := HJ5.out; have := HK2.out; omega⟩, ⟨by (with_reducible repeat (first | apply Kd.R_alloc | apply Kd.R_drewN | apply Kd.R_drew)); exact HO_9.out⟩, ⟨B_⟩⟩
                  · rw [if_neg c16] at H
                    have c16b0 : (((rd_T77 t462 x13_2).f1) == 3) = false := beq_eq_false_iff_ne.mpr c16
                    have c16b1 : (((rd_T77 t462 x13_2).f1) != 3) = true := bne_iff_ne.mpr c16
                    by_cases c19 : ((rd_T77 t462 x13_2).f1) = 4
                    · rw [if_pos c19] at H
                      have c19b0 : (((rd_T77 t462 x13_2).f1) == 4) = true := beq_iff_eq.mpr c19
                      have c19b1 : (((rd_T77 t462 x13_2).f1) != 4) = false := bne_eq_false_iff_eq.mpr c19
                      clear c19
                      obtain ⟨ji20, hji20⟩ : ∃ j_ : Int, (mx x12_2 (wrap64 (((rd_T77 t462 x13_2).f2) + 1))) = j_ := ⟨_, rfl⟩
                      replace H : (keystonelaw4_InstrLocals.l0 k2 l0 l1 a2 t461 t462 ji20 (wrap64 (x13_2 + 1))) = some r := by first | (rw [hji20] at H; exact H) | (simp only [hji20] at H ⊢; exact H)
                      have hji20_ : (if x12_2 < (wrap64 (((rd_T77 t462 x13_2).f2) + 1)) then (wrap64 (((rd_T77 t462 x13_2).f2) + 1)) else x12_2) = ji20 := hji20
                      have H' := Aside0.mk H
                      clear H
                      obtain ⟨Ao21, co21, eo21⟩ := Kd.R_slice HO_9.out
                      subst eo21
                      have p467 : 0 ≤ (x13_2 : Int) := of_decide_eq_true (by first | (with_reducible assumption) | assumption)
                      have q467 : x13_2 < (t462.length : Int) := of_decide_eq_true (by first | (with_reducible assumption) | assumption)
                      obtain ⟨ad467, e467, hx467_0, hx467_1, hx467_2, hx467_3⟩ := at_T77 (Kd.R_reads' HO_9.out).2.2 x13_2 p467 q467
                      cases e467
                      replace p467 := eq_true p467
                      replace q467 := eq_true q467
                      have p469 : 0 ≤ (x13_2 : Int) := of_decide_eq_true (by first | (with_reducible assumption) | assumption)
                      have q469 : x13_2 < (t462.length : Int) := of_decide_eq_true (by first | (with_reducible assumption) | assumption)
                      obtain ⟨ad469, e469, hx469_0, hx469_1, hx469_2, hx469_3⟩ := at_T77 (Kd.R_reads' HO_9.out).2.2 x13_2 p469 q469
                      obtain rfl : ad467 = ad469 := (by injection e469)
                      replace p469 := eq_true p469
                      replace q469 := eq_true q469
                      have p470 : 0 ≤ (x13_2 : Int) := of_decide_eq_true (by first | (with_reducible assumption) | assumption)
                      have q470 : x13_2 < (t462.length : Int) := of_decide_eq_true (by first | (with_reducible assumption) | assumption)
                      obtain ⟨ad470, e470, hx470_0, hx470_1, hx470_2, hx470_3⟩ := at_T77 (Kd.R_reads' HO_9.out).2.2 x13_2 p470 q470
                      obtain rfl : ad467 = ad470 := (by injection e470)
                      replace p470 := eq_true p470
                      replace q470 := eq_true q470
                      go_wp2
                      go_roundg k2
                      case measure => have := HJ5.out; have := HK2.out; omega
                      case rel => exact ⟨(ji20), (wrap64 (x13_2 + 1)), (by first | rfl | (simp; done) | (simp only [← hji20] <;> (first | rfl | simp)) | (simp [*]; done)), R_, H', ⟨by have := HJ5.out; have := HK2.out; omega⟩, ⟨by (with_reducible repeat (first | apply Kd.R_alloc | apply Kd.R_drewN | apply Kd.R_drew)); exact HO_9.out⟩, ⟨B_⟩⟩
                    · rw [if_neg c19] at H
                      have c19b0 : (((rd_T77 t462 x13_2).f1) == 4) = false := beq_eq_false_iff_ne.mpr c19
                      have c19b1 : (((rd_T77 t462 x13_2).f1) != 4) = true := bne_iff_ne.mpr c19
                      have H' := Aside0.mk H
                      clear H
                      obtain ⟨Ao22, co22, eo22⟩ := Kd.R_slice HO_9.out
                      subst eo22
                      have p467 : 0 ≤ (x13_2 : Int) := of_decide_eq_true (by first | (with_reducible assumption) | assumption)
                      have q467 : x13_2 < (t462.length : Int) := of_decide_eq_true (by first | (with_reducible assumption) | assumption)
                      obtain ⟨ad467, e467, hx467_0, hx467_1, hx467_2, hx467_3⟩ := at_T77 (Kd.R_reads' HO_9.out).2.2 x13_2 p467 q467
                      cases e467
                      replace p467 := eq_true p467
                      replace q467 := eq_true q467
                      have p469 : 0 ≤ (x13_2 : Int) := of_decide_eq_true (by first | (with_reducible assumption) | assumption)
                      have q469 : x13_2 < (t462.length : Int) := of_decide_eq_true (by first | (with_reducible assumption) | assumption)
                      obtain ⟨ad469, e469, hx469_0, hx469_1, hx469_2, hx469_3⟩ := at_T77 (Kd.R_reads' HO_9.out).2.2 x13_2 p469 q469
                      obtain rfl : ad467 = ad469 := (by injection e469)
                      replace p469 := eq_true p469
                      replace q469 := eq_true q469
                      go_wp2
                      go_roundg k2
                      case measure => have := HJ5.out; have := HK2.out; omega
                      case rel => exact ⟨(x12_2), (wrap64 (x13_2 + 1)), R_, R_, H', ⟨by have := HJ5.out; have := HK2.out; omega⟩, ⟨by (with_reducible repeat (first | apply Kd.R_alloc | apply Kd.R_drewN | apply Kd.R_drew)); exact HO_9.out⟩, ⟨B_⟩⟩
                · rw [if_neg c15] at H
                  exact absurd H (by simp)
              · rw [if_neg c14] at H
                have c14b0 : decide (x13_2 < (t462.length : Int)) = false := decide_eq_false c14
                clear c14
                by_cases c23 : t461 = 0
                · rw [if_pos c23] at H
                  have c23b0 : (t461 == 0) = true := beq_iff_eq.mpr c23
                  have c23b1 : (t461 != 0) = false := bne_eq_false_iff_eq.mpr c23
                  clear c23
                  replace H := Option.bind_eq_some_iff.mp H
                  obtain ⟨⟨t471, t472⟩, A240, H⟩ := H
                  replace H : (if x12_2 = 0 then (if ((t472 == 0) == true) = true then (if t472 = 0 then (some true) else (some (t472 == 43))) else (some false)) else (if ((t472 == 0) == (decide (a2 ≥ x12_2))) = true then (if t472 = 0 then (some true) else (some (t472 == 43))) else (some false))) = some r := H
                  have A24 := Aside0.mk A240
                  clear A240
                  by_cases c25 : x12_2 = 0
                  · rw [if_pos c25] at H
                    have c25b0 : (x12_2 == 0) = true := beq_iff_eq.mpr c25
                    have c25b1 : (x12_2 != 0) = false := bne_eq_false_iff_eq.mpr c25
                    clear c25
                    by_cases c26 : ((t472 == 0) == true) = true
                    · rw [if_pos c26] at H
                      have c26b0 : ((t472 == 0) == true) = true := c26
                      (try (have c26b1 : decide ((t472 == 0) = true) = true := by simpa using c26))
                      (try (have c26b2 : ((t472 == 0) == true) = true := by simpa using c26))
                      clear c26
                      by_cases c27 : t472 = 0
                      · rw [if_pos c27] at H
                        have c27b0 : (t472 == 0) = true := beq_iff_eq.mpr c27
                        have c27b1 : (t472 != 0) = false := bne_eq_false_iff_eq.mpr c27
                        clear c27
                        obtain rfl := Option.some.inj H
                        obtain ⟨Ao28, co28, eo28⟩ := Kd.R_slice HO_9.out
                        subst eo28
                        go_wp2_with (first | ((with_reducible refine gate_callee (f := 33) rfl ?_); refine goesL_ (some 72) rfl rfl Tryd.func33 (by kernel_rfl) rfl #[.slice A0 l0.length c0, .slice A1 l1.length c1, .int .i64 a2] rfl (by (try simp only [List.map_toArray, List.map_cons, List.map_nil]); first | done | rfl | (simp only [List.length_drop, List.length_take]; rfl)) ?_; (with_reducible refine (instr_Check.calls k2 _ _ l0 _ _ l1 a2 t471 t472 _ ?side1 ?side2 ?side3 ?side4 A24.out).mono ?_); (case side1 => repeat (first | exact (Kd.C_below HR0.out HB.out) | (with_reducible refine Kd.C_alloc ?_ _) | (with_reducible refine Kd.C_drewN ?_ _) | (with_reducible refine Kd.C_drew ?_))); (case side2 => exact HC0.out); (case side3 => repeat (first | exact (Kd.C_below HR1.out HB.out) | (with_reducible refine Kd.C_alloc ?_ _) | (with_reducible refine Kd.C_drewN ?_ _) | (with_reducible refine Kd.C_drew ?_))); (case side4 => exact HC1.out); rintro e w29 ⟨rfl, hb⟩; refine ⟨_, rfl, ?_⟩; have n0_ := Aside0.mk (Kd.R_below (by (with_reducible repeat (first | apply Kd.R_alloc | apply Kd.R_drewN | apply Kd.R_drew)); exact HO_9.out) hb); have n1_ := Aside0.mk (below_step B_ hb); clear HO_9; clear HB; have HO_9 := n0_; have HB := n1_; clear n0_ n1_; (try clear hb); (try clear hb2); (try clear hk); (try clear hi)))
                        go_ret
                        exact ⟨by first | rfl | (simp [errW_none, errW_some] <;> rfl) | (simp [*, errW_none, errW_some] <;> rfl), B_⟩
                      · rw [if_neg c27] at H
                        have c27b0 : (t472 == 0) = false := beq_eq_false_iff_ne.mpr c27
                        exact absurd c26b0 (by rw [c27b0]; decide)
                    · rw [if_neg c26] at H
                      have c26b0 : ((t472 == 0) == true) = false := by simpa using c26
                      (try (have c26b1 : decide ((t472 == 0) = true) = false := by simpa using c26))
                      (try (have c26b2 : ((t472 == 0) == true) = false := by simpa using c26))
                      (try (have c26b3 : ¬ ((t472 == 0) = true) := by simpa using c26))
                      clear c26
                      obtain rfl := Option.some.inj H
                      exact absurd HT.out (by decide)
                  · rw [if_neg c25] at H
                    have c25b0 : (x12_2 == 0) = false := beq_eq_false_iff_ne.mpr c25
                    have c25b1 : (x12_2 != 0) = true := bne_iff_ne.mpr c25
                    by_cases c32 : ((t472 == 0) == (decide (a2 ≥ x12_2))) = true
                    · rw [if_pos c32] at H
                      have c32b0 : ((t472 == 0) == (decide (a2 ≥ x12_2))) = true := c32
                      (try (have c32b1 : decide ((t472 == 0) = (decide (a2 ≥ x12_2))) = true := by simpa using c32))
                      (try (have c32b2 : ((t472 == 0) == (decide (a2 ≥ x12_2))) = true := by simpa using c32))
                      clear c32
                      by_cases c33 : t472 = 0
                      · rw [if_pos c33] at H
                        have c33b0 : (t472 == 0) = true := beq_iff_eq.mpr c33
                        have c33b1 : (t472 != 0) = false := bne_eq_false_iff_eq.mpr c33
                        have c32b9 : decide (x12_2 ≤ a2) = true := by rw [c33b0] at c32b0; simpa using c32b0
                        clear c33
                        obtain rfl := Option.some.inj H
                        obtain ⟨Ao34, co34, eo34⟩ := Kd.R_slice HO_9.out
                        subst eo34
                        go_wp2_with (first | ((with_reducible refine gate_callee (f := 33) rfl ?_); refine goesL_ (some 72) rfl rfl Tryd.func33 (by kernel_rfl) rfl #[.slice A0 l0.length c0, .slice A1 l1.length c1, .int .i64 a2] rfl (by (try simp only [List.map_toArray, List.map_cons, List.map_nil]); first | done | rfl | (simp only [List.length_drop, List.length_take]; rfl)) ?_; (with_reducible refine (instr_Check.calls k2 _ _ l0 _ _ l1 a2 t471 t472 _ ?side1 ?side2 ?side3 ?side4 A24.out).mono ?_); (case side1 => repeat (first | exact (Kd.C_below HR0.out HB.out) | (with_reducible refine Kd.C_alloc ?_ _) | (with_reducible refine Kd.C_drewN ?_ _) | (with_reducible refine Kd.C_drew ?_))); (case side2 => exact HC0.out); (case side3 => repeat (first | exact (Kd.C_below HR1.out HB.out) | (with_reducible refine Kd.C_alloc ?_ _) | (with_reducible refine Kd.C_drewN ?_ _) | (with_reducible refine Kd.C_drew ?_))); (case side4 => exact HC1.out); rintro e w35 ⟨rfl, hb⟩; refine ⟨_, rfl, ?_⟩; have n0_ := Aside0.mk (Kd.R_below (by (with_reducible repeat (first | apply Kd.R_alloc | apply Kd.R_drewN | apply Kd.R_drew)); exact HO_9.out) hb); have n1_ := Aside0.mk (below_step B_ hb); clear HO_9; clear HB; have HO_9 := n0_; have HB := n1_; clear n0_ n1_; (try clear hb); (try clear hb2); (try clear hk); (try clear hi)))
                        go_ret
                        exact ⟨by first | rfl | (simp [errW_none, errW_some] <;> rfl) | (simp [*, errW_none, errW_some] <;> rfl), B_⟩
                      · rw [if_neg c33] at H
                        have c33b0 : (t472 == 0) = false := beq_eq_false_iff_ne.mpr c33
                        have c33b1 : (t472 != 0) = true := bne_iff_ne.mpr c33
                        have c32b9 : decide (x12_2 ≤ a2) = false := by rw [c33b0] at c32b0; simpa using c32b0
                        obtain rfl := Option.some.inj H
                        obtain ⟨Ao36, co36, eo36⟩ := Kd.R_slice HO_9.out
                        subst eo36
                        go_wp2_with (first | ((with_reducible refine gate_callee (f := 33) rfl ?_); refine goesL_ (some 72) rfl rfl Tryd.func33 (by kernel_rfl) rfl #[.slice A0 l0.length c0, .slice A1 l1.length c1, .int .i64 a2] rfl (by (try simp only [List.map_toArray, List.map_cons, List.map_nil]); first | done | rfl | (simp only [List.length_drop, List.length_take]; rfl)) ?_; (with_reducible refine (instr_Check.calls k2 _ _ l0 _ _ l1 a2 t471 t472 _ ?side1 ?side2 ?side3 ?side4 A24.out).mono ?_); (case side1 => repeat (first | exact (Kd.C_below HR0.out HB.out) | (with_reducible refine Kd.C_alloc ?_ _) | (with_reducible refine Kd.C_drewN ?_ _) | (with_reducible refine Kd.C_drew ?_))); (case side2 => exact HC0.out); (case side3 => repeat (first | exact (Kd.C_below HR1.out HB.out) | (with_reducible refine Kd.C_alloc ?_ _) | (with_reducible refine Kd.C_drewN ?_ _) | (with_reducible refine Kd.C_drew ?_))); (case side4 => exact HC1.out); rintro e w37 ⟨rfl, hb⟩; refine ⟨_, rfl, ?_⟩; have n0_ := Aside0.mk (Kd.R_below (by (with_reducible repeat (first | apply Kd.R_alloc | apply Kd.R_drewN | apply Kd.R_drew)); exact HO_9.out) hb); have n1_ := Aside0.mk (below_step B_ hb); clear HO_9; clear HB; have HO_9 := n0_; have HB := n1_; clear n0_ n1_; (try clear hb); (try clear hb2); (try clear hk); (try clear hi)))
                        go_ret
                        exact ⟨by first | rfl | (simp [errW_none, errW_some] <;> rfl) | (simp [*, errW_none, errW_some] <;> rfl), B_⟩
                    · rw [if_neg c32] at H
                      have c32b0 : ((t472 == 0) == (decide (a2 ≥ x12_2))) = false := by simpa using c32
                      (try (have c32b1 : decide ((t472 == 0) = (decide (a2 ≥ x12_2))) = false := by simpa using c32))
                      (try (have c32b2 : ((t472 == 0) == (decide (a2 ≥ x12_2))) = false := by simpa using c32))
                      (try (have c32b3 : ¬ ((t472 == 0) = (decide (a2 ≥ x12_2))) := by simpa using c32))
                      clear c32
                      obtain rfl := Option.some.inj H
                      exact absurd HT.out (by decide)
                · rw [if_neg c23] at H
                  have c23b0 : (t461 == 0) = false := beq_eq_false_iff_ne.mpr c23
                  have c23b1 : (t461 != 0) = true := bne_iff_ne.mpr c23
                  obtain rfl := Option.some.inj H
                  obtain ⟨Ao38, co38, eo38⟩ := Kd.R_slice HO_9.out
                  subst eo38
                  go_wp2
                  go_ret
                  exact ⟨by first | rfl | (simp [errW_none, errW_some] <;> rfl) | (simp [*, errW_none, errW_some] <;> rfl), B_⟩
  · replace c5 := Bool.eq_false_iff.mpr c5
    subst c5
    have H1 : (some false) = some r := by rw [if_neg (show ¬ (false = true) by decide)] at H; exact H
    clear H
    have H := H1
    clear H1
    obtain rfl := Option.some.inj H
    exact absurd HT.out (by decide)

end Go.Proofs.YtldejfkplnejjaaDoor.P
