-- Written by my program xprint.py (a patched run of the kit's print). Lean checks it.
import Derived.Test.YtldejfkplnejjaaDoorP0
import Derived.Test.YtldejfkplnejjaaDoorExt
import Derived.Test.YtldejfkplnejjaaDoorShort
import Derived.Test.YtldejfkplnejjaaDoorShort2
import Derived.Test.YtldejfkplnejjaaDoorExtFields
namespace Go.Proofs.YtldejfkplnejjaaDoor.P
open Go.RowKit Go.Proofs.YtldejfkplnejjaaDoorW.PrintWords Go.Proofs.YtldejfkplnejjaaDoorW.PrintLast Go.Proofs.YtldejfkplnejjaaDoorW.PrintMore
attribute [local go_sem] max2_int min2_int max_two min_two max_three min_three max_four min_four   -- for this text's walks alone
set_option linter.unusedVariables false
set_option linter.unusedSimpArgs false
def instr_jumps.f (a0 : Int) : Option (Bool) := if a0 ≥ 19 then (some (decide (a0 ≤ 24))) else (some false)
set_option maxHeartbeats 8000000 in
set_option maxRecDepth 100000 in
theorem instr_jumps.calls (a0 : Int) (r : Bool) (w : World) (h : instr_jumps.f a0 = some r) :
 Calls Tryd.prog 64 #[.int .i64 a0] w fun e w' => e = .returned (.bool r) ∧ Drawn0 w w' := by
 have H : (if a0 ≥ 19 then (some (decide (a0 ≤ 24))) else (some false)) = some r := h
 clear h
 by_cases c2 : a0 ≥ 19
 ·
  rw [if_pos c2] at H
  have c2b0 : decide (19 ≤ a0) = true := decide_eq_true c2
  clear c2
  obtain rfl := Option.some.inj H
  go_enter Tryd.func64, Tryd.ntmps64
  go_wp2
  go_ret
  exact ⟨by first | rfl | (simp; done) | (simp [*]; done) | (simp [wrap64]; done), by repeat (first | exact Drawn0.refl _ | apply Drawn0.step)⟩
 ·
  rw [if_neg c2] at H
  have c2b0 : decide (19 ≤ a0) = false := decide_eq_false c2
  clear c2
  obtain rfl := Option.some.inj H
  go_enter Tryd.func64, Tryd.ntmps64
  go_wp2
  go_ret
  exact ⟨by first | rfl | (simp; done) | (simp [*]; done) | (simp [wrap64]; done), by repeat (first | exact Drawn0.refl _ | apply Drawn0.step)⟩
def instr_wide.f (a0 : Int) : Option (Bool) := if a0 = 1 then (some true) else (if a0 = 25 then (some true) else (if a0 = 26 then (some true) else (if a0 = 27 then (some true) else (if a0 = 28 then (some true) else (if a0 = 29 then (some true) else (if a0 = 30 then (some true) else (if a0 = 36 then (some true) else (if a0 = 37 then (some true) else (if a0 = 38 then (some true) else (if a0 = 39 then (some true) else (if a0 = 40 then (some true) else (if a0 = 41 then (some true) else ((instr_jumps.f a0).bind fun t367 => (some t367))))))))))))))
set_option maxHeartbeats 8000000 in
set_option maxRecDepth 100000 in
theorem instr_wide.calls (a0 : Int) (r : Bool) (w : World) (h : instr_wide.f a0 = some r) :
 Calls Tryd.prog 98 #[.int .i64 a0] w fun e w' => e = .returned (.bool r) ∧ Drawn0 w w' := by
 have H : (if a0 = 1 then (some true) else (if a0 = 25 then (some true) else (if a0 = 26 then (some true) else (if a0 = 27 then (some true) else (if a0 = 28 then (some true) else (if a0 = 29 then (some true) else (if a0 = 30 then (some true) else (if a0 = 36 then (some true) else (if a0 = 37 then (some true) else (if a0 = 38 then (some true) else (if a0 = 39 then (some true) else (if a0 = 40 then (some true) else (if a0 = 41 then (some true) else ((instr_jumps.f a0).bind fun t367 => (some t367))))))))))))))) = some r := h
 clear h
 by_cases c2 : a0 = 1
 ·
  rw [if_pos c2] at H
  have c2b0 : (a0 == 1) = true := beq_iff_eq.mpr c2
  have c2b1 : (a0 != 1) = false := bne_eq_false_iff_eq.mpr c2
  clear c2
  obtain rfl := Option.some.inj H
  go_enter Tryd.func98, Tryd.ntmps98
  go_wp2
  go_ret
  exact ⟨by first | rfl | (simp; done) | (simp [*]; done) | (simp [wrap64]; done), by repeat (first | exact Drawn0.refl _ | apply Drawn0.step)⟩
 ·
  rw [if_neg c2] at H
  have c2b0 : (a0 == 1) = false := beq_eq_false_iff_ne.mpr c2
  have c2b1 : (a0 != 1) = true := bne_iff_ne.mpr c2
  by_cases c3 : a0 = 25
  ·
   rw [if_pos c3] at H
   have c3b0 : (a0 == 25) = true := beq_iff_eq.mpr c3
   have c3b1 : (a0 != 25) = false := bne_eq_false_iff_eq.mpr c3
   clear c3
   obtain rfl := Option.some.inj H
   go_enter Tryd.func98, Tryd.ntmps98
   go_wp2
   go_ret
   exact ⟨by first | rfl | (simp; done) | (simp [*]; done) | (simp [wrap64]; done), by repeat (first | exact Drawn0.refl _ | apply Drawn0.step)⟩
  ·
   rw [if_neg c3] at H
   have c3b0 : (a0 == 25) = false := beq_eq_false_iff_ne.mpr c3
   have c3b1 : (a0 != 25) = true := bne_iff_ne.mpr c3
   by_cases c4 : a0 = 26
   ·
    rw [if_pos c4] at H
    have c4b0 : (a0 == 26) = true := beq_iff_eq.mpr c4
    have c4b1 : (a0 != 26) = false := bne_eq_false_iff_eq.mpr c4
    clear c4
    obtain rfl := Option.some.inj H
    go_enter Tryd.func98, Tryd.ntmps98
    go_wp2
    go_ret
    exact ⟨by first | rfl | (simp; done) | (simp [*]; done) | (simp [wrap64]; done), by repeat (first | exact Drawn0.refl _ | apply Drawn0.step)⟩
   ·
    rw [if_neg c4] at H
    have c4b0 : (a0 == 26) = false := beq_eq_false_iff_ne.mpr c4
    have c4b1 : (a0 != 26) = true := bne_iff_ne.mpr c4
    by_cases c5 : a0 = 27
    ·
     rw [if_pos c5] at H
     have c5b0 : (a0 == 27) = true := beq_iff_eq.mpr c5
     have c5b1 : (a0 != 27) = false := bne_eq_false_iff_eq.mpr c5
     clear c5
     obtain rfl := Option.some.inj H
     go_enter Tryd.func98, Tryd.ntmps98
     go_wp2
     go_ret
     exact ⟨by first | rfl | (simp; done) | (simp [*]; done) | (simp [wrap64]; done), by repeat (first | exact Drawn0.refl _ | apply Drawn0.step)⟩
    ·
     rw [if_neg c5] at H
     have c5b0 : (a0 == 27) = false := beq_eq_false_iff_ne.mpr c5
     have c5b1 : (a0 != 27) = true := bne_iff_ne.mpr c5
     by_cases c6 : a0 = 28
     ·
      rw [if_pos c6] at H
      have c6b0 : (a0 == 28) = true := beq_iff_eq.mpr c6
      have c6b1 : (a0 != 28) = false := bne_eq_false_iff_eq.mpr c6
      clear c6
      obtain rfl := Option.some.inj H
      go_enter Tryd.func98, Tryd.ntmps98
      go_wp2
      go_ret
      exact ⟨by first | rfl | (simp; done) | (simp [*]; done) | (simp [wrap64]; done), by repeat (first | exact Drawn0.refl _ | apply Drawn0.step)⟩
     ·
      rw [if_neg c6] at H
      have c6b0 : (a0 == 28) = false := beq_eq_false_iff_ne.mpr c6
      have c6b1 : (a0 != 28) = true := bne_iff_ne.mpr c6
      by_cases c7 : a0 = 29
      ·
       rw [if_pos c7] at H
       have c7b0 : (a0 == 29) = true := beq_iff_eq.mpr c7
       have c7b1 : (a0 != 29) = false := bne_eq_false_iff_eq.mpr c7
       clear c7
       obtain rfl := Option.some.inj H
       go_enter Tryd.func98, Tryd.ntmps98
       go_wp2
       go_ret
       exact ⟨by first | rfl | (simp; done) | (simp [*]; done) | (simp [wrap64]; done), by repeat (first | exact Drawn0.refl _ | apply Drawn0.step)⟩
      ·
       rw [if_neg c7] at H
       have c7b0 : (a0 == 29) = false := beq_eq_false_iff_ne.mpr c7
       have c7b1 : (a0 != 29) = true := bne_iff_ne.mpr c7
       by_cases c8 : a0 = 30
       ·
        rw [if_pos c8] at H
        have c8b0 : (a0 == 30) = true := beq_iff_eq.mpr c8
        have c8b1 : (a0 != 30) = false := bne_eq_false_iff_eq.mpr c8
        clear c8
        obtain rfl := Option.some.inj H
        go_enter Tryd.func98, Tryd.ntmps98
        go_wp2
        go_ret
        exact ⟨by first | rfl | (simp; done) | (simp [*]; done) | (simp [wrap64]; done), by repeat (first | exact Drawn0.refl _ | apply Drawn0.step)⟩
       ·
        rw [if_neg c8] at H
        have c8b0 : (a0 == 30) = false := beq_eq_false_iff_ne.mpr c8
        have c8b1 : (a0 != 30) = true := bne_iff_ne.mpr c8
        by_cases c9 : a0 = 36
        ·
         rw [if_pos c9] at H
         have c9b0 : (a0 == 36) = true := beq_iff_eq.mpr c9
         have c9b1 : (a0 != 36) = false := bne_eq_false_iff_eq.mpr c9
         clear c9
         obtain rfl := Option.some.inj H
         go_enter Tryd.func98, Tryd.ntmps98
         go_wp2
         go_ret
         exact ⟨by first | rfl | (simp; done) | (simp [*]; done) | (simp [wrap64]; done), by repeat (first | exact Drawn0.refl _ | apply Drawn0.step)⟩
        ·
         rw [if_neg c9] at H
         have c9b0 : (a0 == 36) = false := beq_eq_false_iff_ne.mpr c9
         have c9b1 : (a0 != 36) = true := bne_iff_ne.mpr c9
         by_cases c10 : a0 = 37
         ·
          rw [if_pos c10] at H
          have c10b0 : (a0 == 37) = true := beq_iff_eq.mpr c10
          have c10b1 : (a0 != 37) = false := bne_eq_false_iff_eq.mpr c10
          clear c10
          obtain rfl := Option.some.inj H
          go_enter Tryd.func98, Tryd.ntmps98
          go_wp2
          go_ret
          exact ⟨by first | rfl | (simp; done) | (simp [*]; done) | (simp [wrap64]; done), by repeat (first | exact Drawn0.refl _ | apply Drawn0.step)⟩
         ·
          rw [if_neg c10] at H
          have c10b0 : (a0 == 37) = false := beq_eq_false_iff_ne.mpr c10
          have c10b1 : (a0 != 37) = true := bne_iff_ne.mpr c10
          by_cases c11 : a0 = 38
          ·
           rw [if_pos c11] at H
           have c11b0 : (a0 == 38) = true := beq_iff_eq.mpr c11
           have c11b1 : (a0 != 38) = false := bne_eq_false_iff_eq.mpr c11
           clear c11
           obtain rfl := Option.some.inj H
           go_enter Tryd.func98, Tryd.ntmps98
           go_wp2
           go_ret
           exact ⟨by first | rfl | (simp; done) | (simp [*]; done) | (simp [wrap64]; done), by repeat (first | exact Drawn0.refl _ | apply Drawn0.step)⟩
          ·
           rw [if_neg c11] at H
           have c11b0 : (a0 == 38) = false := beq_eq_false_iff_ne.mpr c11
           have c11b1 : (a0 != 38) = true := bne_iff_ne.mpr c11
           by_cases c12 : a0 = 39
           ·
            rw [if_pos c12] at H
            have c12b0 : (a0 == 39) = true := beq_iff_eq.mpr c12
            have c12b1 : (a0 != 39) = false := bne_eq_false_iff_eq.mpr c12
            clear c12
            obtain rfl := Option.some.inj H
            go_enter Tryd.func98, Tryd.ntmps98
            go_wp2
            go_ret
            exact ⟨by first | rfl | (simp; done) | (simp [*]; done) | (simp [wrap64]; done), by repeat (first | exact Drawn0.refl _ | apply Drawn0.step)⟩
           ·
            rw [if_neg c12] at H
            have c12b0 : (a0 == 39) = false := beq_eq_false_iff_ne.mpr c12
            have c12b1 : (a0 != 39) = true := bne_iff_ne.mpr c12
            by_cases c13 : a0 = 40
            ·
             rw [if_pos c13] at H
             have c13b0 : (a0 == 40) = true := beq_iff_eq.mpr c13
             have c13b1 : (a0 != 40) = false := bne_eq_false_iff_eq.mpr c13
             clear c13
             obtain rfl := Option.some.inj H
             go_enter Tryd.func98, Tryd.ntmps98
             go_wp2
             go_ret
             exact ⟨by first | rfl | (simp; done) | (simp [*]; done) | (simp [wrap64]; done), by repeat (first | exact Drawn0.refl _ | apply Drawn0.step)⟩
            ·
             rw [if_neg c13] at H
             have c13b0 : (a0 == 40) = false := beq_eq_false_iff_ne.mpr c13
             have c13b1 : (a0 != 40) = true := bne_iff_ne.mpr c13
             by_cases c14 : a0 = 41
             ·
              rw [if_pos c14] at H
              have c14b0 : (a0 == 41) = true := beq_iff_eq.mpr c14
              have c14b1 : (a0 != 41) = false := bne_eq_false_iff_eq.mpr c14
              clear c14
              obtain rfl := Option.some.inj H
              go_enter Tryd.func98, Tryd.ntmps98
              go_wp2
              go_ret
              exact ⟨by first | rfl | (simp; done) | (simp [*]; done) | (simp [wrap64]; done), by repeat (first | exact Drawn0.refl _ | apply Drawn0.step)⟩
             ·
              rw [if_neg c14] at H
              have c14b0 : (a0 == 41) = false := beq_eq_false_iff_ne.mpr c14
              have c14b1 : (a0 != 41) = true := bne_iff_ne.mpr c14
              replace H := Option.bind_eq_some_iff.mp H
              obtain ⟨t367, A150, H⟩ := H
              replace H : (some t367) = some r := H
              have A15 := Aside0.mk A150
              clear A150
              obtain rfl := Option.some.inj H
              go_enter Tryd.func98, Tryd.ntmps98
              go_wp2_with (first | ((with_reducible refine gt_ 64 ?_); refine gd_ 19 Tryd.func64 (instr_jumps.calls a0 t367 _ A15.out) ?_; rintro w' ⟨nd, rfl⟩))
              go_ret
              exact ⟨by first | rfl | (simp; done) | (simp [*]; done) | (simp [wrap64]; done), by repeat (first | exact Drawn0.refl _ | apply Drawn0.step)⟩
def instr_Size.j0 : Nat → Int → Int → Bool → Option (Int)
 | 0, _, _, _ => none
 | k + 1, x0, x3, x4 => if x4 = true then (some 0) else ((instr_wide.f x0).bind fun t368 => (if t368 = true then (some (wrap64 ((wrap64 (x3 + 1)) + 1))) else (if x0 = 3 then (some (wrap64 (x3 + 1))) else (if x0 = 4 then (some (wrap64 (x3 + 1))) else (some x3)))))
def instr_Size.f (k : Nat) (a0 : Int) : Option (Int) := if a0 < 0 then (instr_Size.j0 k a0 1 true) else (instr_Size.j0 k a0 1 (decide (a0 > 45)))
theorem instr_Size.mono_l : ∀ k, (∀ y0 y1 y2, LeO (instr_Size.j0 k y0 y1 y2) (instr_Size.j0 (k + 1) y0 y1 y2))
 | 0 => fun _ _ _ r h => by simp [instr_Size.j0] at h
 | k + 1 => by
  have ih0 := instr_Size.mono_l k
  ·
   intro y0 y1 y2
   unfold instr_Size.j0
   repeat' first
   | (with_reducible exact ih0 _ _ _)
   | (with_reducible exact LeO.refl _)
   | (with_reducible exact LeO.none _)
   | (with_reducible refine LeO.ite ?_ ?_)
   | (with_reducible refine LeO.bind ?_ (fun _ => ?_))
   | exact ih0 _ _ _
   | exact LeO.none _
   | refine LeO.ite ?_ ?_
   | refine LeO.bind ?_ (fun _ => ?_)
theorem instr_Size.mono : ∀ a0 k, LeO (instr_Size.f k a0) (instr_Size.f (k + 1) a0) := by
 intro a0 k
 have ih0 := instr_Size.mono_l k
 unfold instr_Size.f
 repeat' first
  | (with_reducible exact ih0 _ _ _)
  | (with_reducible exact LeO.refl _)
  | (with_reducible exact LeO.none _)
  | (with_reducible refine LeO.ite ?_ ?_)
  | (with_reducible refine LeO.bind ?_ (fun _ => ?_))
  | exact ih0 _ _ _
  | exact LeO.none _
  | refine LeO.ite ?_ ?_
  | refine LeO.bind ?_ (fun _ => ?_)
set_option maxHeartbeats 8000000 in
set_option maxRecDepth 100000 in
theorem instr_Size.calls (k : Nat) (a0 : Int) (r : Int) (w : World) (h : instr_Size.f k a0 = some r) :
 Calls Tryd.prog 62 #[.int .i64 a0] w fun e w' => e = .returned (.int .i64 r) ∧ Drawn0 w w' := by
 have H : (if a0 < 0 then (instr_Size.j0 k a0 1 true) else (instr_Size.j0 k a0 1 (decide (a0 > 45)))) = some r := h
 clear h
 have HC2 := Aside0.mk H
 clear H
 go_enter Tryd.func62, Tryd.ntmps62
 go_upto_region 2 with (fail)
 go_cut [4] (fun v4 wc => ∃ (kq : Nat) (x4_1 : Bool), v4 = .bool x4_1 ∧ Aside0 (instr_Size.j0 kq a0 1 x4_1 = some r) ∧ Aside0 (kq ≤ k) ∧ Drawn0 w wc)
 case first =>
  have H := HC2.out
  clear HC2
  by_cases c3 : a0 < 0
  ·
   rw [if_pos c3] at H
   have c3b0 : decide (a0 < 0) = true := decide_eq_true c3
   clear c3
   (first | rw [c3b0] | (simp only [i64_w, i32_w]; rw [c3b0]) | skip)
   have H' := Aside0.mk H
   clear H
   go_wp2
   go_meet
   case rel => exact ⟨_, (true), R_, H', ⟨by first | omega | exact Nat.le_refl _⟩, by repeat (first | exact Drawn0.refl _ | apply Drawn0.step)⟩
  ·
   rw [if_neg c3] at H
   have c3b0 : decide (a0 < 0) = false := decide_eq_false c3
   clear c3
   (first | rw [c3b0] | (simp only [i64_w, i32_w]; rw [c3b0]) | skip)
   have H' := Aside0.mk H
   clear H
   go_wp2
   go_meet
   case rel => exact ⟨_, (decide (a0 > 45)), R_, H', ⟨by first | omega | exact Nat.le_refl _⟩, by repeat (first | exact Drawn0.refl _ | apply Drawn0.step)⟩
 case rest =>
  clear HC2
  obtain ⟨kq, x4_1, rfl, HA, HJ1, ⟨mc1, rfl⟩⟩ := hcut
  cases kq with
  | zero => exact absurd HA.out (by simp [instr_Size.j0])
  | succ kj1 =>
   have H := HA.out
   clear HA
   simp only [instr_Size.j0] at H
   by_cases c4 : x4_1 = true
   ·
    subst c4
    have H1 : (some 0) = some r := by rw [if_pos rfl] at H; exact H
    clear H
    have H := H1
    clear H1
    obtain rfl := Option.some.inj H
    go_wp2
    go_ret
    exact ⟨by first | rfl | (simp; done) | (simp [*]; done) | (simp [wrap64]; done), by repeat (first | exact Drawn0.refl _ | apply Drawn0.step)⟩
   ·
    replace c4 := Bool.eq_false_iff.mpr c4
    subst c4
    have H1 : ((instr_wide.f a0).bind fun t368 => (if t368 = true then (some (wrap64 ((wrap64 (1 + 1)) + 1))) else (if a0 = 3 then (some (wrap64 (1 + 1))) else (if a0 = 4 then (some (wrap64 (1 + 1))) else (some 1))))) = some r := by rw [if_neg (show ¬ (false = true) by decide)] at H; exact H
    clear H
    have H := H1
    clear H1
    replace H := Option.bind_eq_some_iff.mp H
    obtain ⟨t368, A50, H⟩ := H
    replace H : (if t368 = true then (some (wrap64 ((wrap64 (1 + 1)) + 1))) else (if a0 = 3 then (some (wrap64 (1 + 1))) else (if a0 = 4 then (some (wrap64 (1 + 1))) else (some 1)))) = some r := H
    have A5 := Aside0.mk A50
    clear A50
    by_cases c6 : t368 = true
    ·
     subst c6
     have H1 : (some (wrap64 ((wrap64 (1 + 1)) + 1))) = some r := by rw [if_pos rfl] at H; exact H
     clear H
     have H := H1
     clear H1
     obtain rfl := Option.some.inj H
     go_wp2_with (first | ((with_reducible refine gt_ 98 ?_); refine gd_ 13 Tryd.func98 (instr_wide.calls a0 true _ A5.out) ?_; rintro w' ⟨nd, rfl⟩))
     go_ret
     exact ⟨by first | rfl | (simp; done) | (simp [*]; done) | (simp [wrap64]; done), by repeat (first | exact Drawn0.refl _ | apply Drawn0.step)⟩
    ·
     replace c6 := Bool.eq_false_iff.mpr c6
     subst c6
     have H1 : (if a0 = 3 then (some (wrap64 (1 + 1))) else (if a0 = 4 then (some (wrap64 (1 + 1))) else (some 1))) = some r := by rw [if_neg (show ¬ (false = true) by decide)] at H; exact H
     clear H
     have H := H1
     clear H1
     by_cases c7 : a0 = 3
     ·
      rw [if_pos c7] at H
      have c7b0 : (a0 == 3) = true := beq_iff_eq.mpr c7
      have c7b1 : (a0 != 3) = false := bne_eq_false_iff_eq.mpr c7
      clear c7
      obtain rfl := Option.some.inj H
      go_wp2_with (first | ((with_reducible refine gt_ 98 ?_); refine gd_ 13 Tryd.func98 (instr_wide.calls a0 false _ A5.out) ?_; rintro w' ⟨nd, rfl⟩))
      go_ret
      exact ⟨by first | rfl | (simp; done) | (simp [*]; done) | (simp [wrap64]; done), by repeat (first | exact Drawn0.refl _ | apply Drawn0.step)⟩
     ·
      rw [if_neg c7] at H
      have c7b0 : (a0 == 3) = false := beq_eq_false_iff_ne.mpr c7
      have c7b1 : (a0 != 3) = true := bne_iff_ne.mpr c7
      by_cases c8 : a0 = 4
      ·
       rw [if_pos c8] at H
       have c8b0 : (a0 == 4) = true := beq_iff_eq.mpr c8
       have c8b1 : (a0 != 4) = false := bne_eq_false_iff_eq.mpr c8
       clear c8
       obtain rfl := Option.some.inj H
       go_wp2_with (first | ((with_reducible refine gt_ 98 ?_); refine gd_ 13 Tryd.func98 (instr_wide.calls a0 false _ A5.out) ?_; rintro w' ⟨nd, rfl⟩))
       go_ret
       exact ⟨by first | rfl | (simp; done) | (simp [*]; done) | (simp [wrap64]; done), by repeat (first | exact Drawn0.refl _ | apply Drawn0.step)⟩
      ·
       rw [if_neg c8] at H
       have c8b0 : (a0 == 4) = false := beq_eq_false_iff_ne.mpr c8
       have c8b1 : (a0 != 4) = true := bne_iff_ne.mpr c8
       obtain rfl := Option.some.inj H
       go_wp2_with (first | ((with_reducible refine gt_ 98 ?_); refine gd_ 13 Tryd.func98 (instr_wide.calls a0 false _ A5.out) ?_; rintro w' ⟨nd, rfl⟩))
       go_ret
       exact ⟨by first | rfl | (simp; done) | (simp [*]; done) | (simp [wrap64]; done), by repeat (first | exact Drawn0.refl _ | apply Drawn0.step)⟩
mutual
def instr_Encode.l0 : Nat → List Int → List (S77) → Int → Int → Option (List Int × Int)
 | 0, _, _, _, _ => none
 | k + 1, x4, x8, x9, x10 => if x10 < x9 then (if 0 ≤ x10 then (if x10 < (x8.length : Int) then ((instr_Size.f k ((rd_T77 x8 x10).f1)).bind fun t371 => (if t371 = 0 then (some (([] : List Int), 17)) else (if ((rd_T77 x8 x10).f2) < 0 then (instr_Encode.j1 k x4 t371 x8 x9 x10 true ((rd_T77 x8 x10).f0) ((rd_T77 x8 x10).f1) ((rd_T77 x8 x10).f2) ((rd_T77 x8 x10).f3)) else (if 0 ≤ (wrap64 (8 * (wrap64 (t371 - 1)))) then (instr_Encode.j1 k x4 t371 x8 x9 x10 (decide (((rd_T77 x8 x10).f2) ≥ (shl .i64 1 (wrap64 (8 * (wrap64 (t371 - 1))))))) ((rd_T77 x8 x10).f0) ((rd_T77 x8 x10).f1) ((rd_T77 x8 x10).f2) ((rd_T77 x8 x10).f3)) else (none))))) else (none)) else (none)) else (some (x4, 0))
def instr_Encode.j1 : Nat → List Int → Int → List (S77) → Int → Int → Bool → Int → Int → Int → Int → Option (List Int × Int)
 | 0, _, _, _, _, _, _, _, _, _, _ => none
 | k + 1, x4, x7, x8, x9, x10, x30, x371000, x371001, x371002, x371003 => if x30 = true then (some (([] : List Int), 1)) else (if x4.length < 140737488355328 then ((some (x4 ++ [(x371001) % 256] : List Int)).bind fun y372 => (if x7 = 3 then (if y372.length < 140737488355328 then ((some (y372 ++ [(x371002 / 256) % 256] : List Int)).bind fun y375 => (if x7 > 1 then (if y375.length < 140737488355328 then (instr_Encode.l0 k (y375 ++ [(x371002) % 256]) x8 x9 (wrap64 (x10 + 1))) else (none)) else (instr_Encode.l0 k y375 x8 x9 (wrap64 (x10 + 1))))) else (none)) else (if x7 > 1 then (if y372.length < 140737488355328 then (instr_Encode.l0 k (y372 ++ [(x371002) % 256]) x8 x9 (wrap64 (x10 + 1))) else (none)) else (instr_Encode.l0 k y372 x8 x9 (wrap64 (x10 + 1)))))) else (none))
end
def instr_Encode.f (k : Nat) (l0 : List (S77)) : Option (List Int × Int) := instr_Encode.l0 k ([] : List Int) l0 (l0.length : Int) 0
theorem instr_Encode.mono_l : ∀ k, (∀ y0 y1 y2 y3, LeO (instr_Encode.l0 k y0 y1 y2 y3) (instr_Encode.l0 (k + 1) y0 y1 y2 y3)) ∧ (∀ y0 y1 y2 y3 y4 y5 y6 y7 y8 y9, LeO (instr_Encode.j1 k y0 y1 y2 y3 y4 y5 y6 y7 y8 y9) (instr_Encode.j1 (k + 1) y0 y1 y2 y3 y4 y5 y6 y7 y8 y9))
 | 0 => ⟨fun _ _ _ _ r h => by simp [instr_Encode.l0] at h, fun _ _ _ _ _ _ _ _ _ _ r h => by simp [instr_Encode.j1] at h⟩
 | k + 1 => by
  obtain ⟨ih0, ih1⟩ := instr_Encode.mono_l k
  refine ⟨?_, ?_⟩
  ·
   intro y0 y1 y2 y3
   unfold instr_Encode.l0
   repeat' first
   | (with_reducible exact ih0 _ _ _ _)
   | (with_reducible exact ih1 _ _ _ _ _ _ _ _ _ _)
   | (with_reducible exact instr_Size.mono _ _)
   | (with_reducible exact LeO.refl _)
   | (with_reducible exact LeO.none _)
   | (with_reducible refine LeO.ite ?_ ?_)
   | (with_reducible refine LeO.bind ?_ (fun _ => ?_))
   | exact ih0 _ _ _ _
   | exact ih1 _ _ _ _ _ _ _ _ _ _
   | exact instr_Size.mono _ _
   | exact LeO.none _
   | refine LeO.ite ?_ ?_
   | refine LeO.bind ?_ (fun _ => ?_)
  ·
   intro y0 y1 y2 y3 y4 y5 y6 y7 y8 y9
   unfold instr_Encode.j1
   repeat' first
   | (with_reducible exact ih0 _ _ _ _)
   | (with_reducible exact ih1 _ _ _ _ _ _ _ _ _ _)
   | (with_reducible exact instr_Size.mono _ _)
   | (with_reducible exact LeO.refl _)
   | (with_reducible exact LeO.none _)
   | (with_reducible refine LeO.ite ?_ ?_)
   | (with_reducible refine LeO.bind ?_ (fun _ => ?_))
   | exact ih0 _ _ _ _
   | exact ih1 _ _ _ _ _ _ _ _ _ _
   | exact instr_Size.mono _ _
   | exact LeO.none _
   | refine LeO.ite ?_ ?_
   | refine LeO.bind ?_ (fun _ => ?_)
theorem instr_Encode.mono : ∀ a0 k, LeO (instr_Encode.f k a0) (instr_Encode.f (k + 1) a0) := by
 intro a0 k
 obtain ⟨ih0, ih1⟩ := instr_Encode.mono_l k
 unfold instr_Encode.f
 repeat' first
  | (with_reducible exact ih0 _ _ _ _)
  | (with_reducible exact ih1 _ _ _ _ _ _ _ _ _ _)
  | (with_reducible exact instr_Size.mono _ _)
  | (with_reducible exact LeO.refl _)
  | (with_reducible exact LeO.none _)
  | (with_reducible refine LeO.ite ?_ ?_)
  | (with_reducible refine LeO.bind ?_ (fun _ => ?_))
  | exact ih0 _ _ _ _
  | exact ih1 _ _ _ _ _ _ _ _ _ _
  | exact instr_Size.mono _ _
  | exact LeO.none _
  | refine LeO.ite ?_ ?_
  | refine LeO.bind ?_ (fun _ => ?_)
set_option maxHeartbeats 8000000 in
set_option maxRecDepth 100000 in
theorem instr_Encode.calls (k : Nat) (A0 : Option Addr) (c0 : Nat) (l0 : List (S77)) (r1 : List Int) (r2 : Int) (w : World) (hr0 : Kd.C k77 w A0 l0.length l0) (hc0 : l0.length ≤ c0) (h : instr_Encode.f k l0 = some (r1, r2)) :
 Calls Tryd.prog 61 #[.slice A0 l0.length c0] w fun e w' => ∃ v0_ : Value, e = .returned (.tuple #[v0_, .int .i64 r2]) ∧ Kd.R (Kd.int .u8) 5 w' w.heap.size (fun _ => True) v0_ r1 ∧ Below w.heap.size w w' := by
 have hu77 := Tryd.underlying77
 have HR0 := Aside0.mk hr0
 have HC0 := Aside0.mk hc0
 clear hr0 hc0
 have HB := Aside0.mk (Below.refl w.heap.size w)
 have H : (instr_Encode.l0 k ([] : List Int) l0 (l0.length : Int) 0) = some (r1, r2) := h
 clear h
 have H' := Aside0.mk H
 clear H
 go_enter Tryd.func61, Tryd.ntmps61
 go_wp2
 repeat (go_quiet (fail); try go_wp2)
 go_loopg [4, 10] k (fun kq v4 v10 w' => ∃ (x4_1 : List Int) (x10_1 : Int), v10 = .int .i64 x10_1 ∧ Aside0 (instr_Encode.l0 kq x4_1 l0 (l0.length : Int) x10_1 = some (r1, r2)) ∧ Aside0 (kq ≤ k) ∧ Aside0 (Kd.R (Kd.int .u8) 5 w' w.heap.size (fun _ => True) v4 x4_1) ∧ Aside0 (Below w.heap.size w w'))
 case atStart => exact ⟨(([] : List Int)), (0), R_, H', ⟨Nat.le_refl _⟩, ⟨by first | exact Kd.R_nil _ _ _ _ _ | exact Kd.N_nil _ _ _ _ _ | exact Kd.V_nil _ _ _ _ _ | exact Kd.Q_nil _ _ _ _ _ | exact Kd.S_nil _ _ _ _ _⟩, ⟨B_⟩⟩
 case round =>
  clear H'
  obtain ⟨x4_1, x10_1, rfl, HA, HK1, HO_4, HB⟩ := hrel
  cases gk with
  | zero => exact absurd HA.out (by simp [instr_Encode.l0])
  | succ k1 =>
   have H := HA.out
   clear HA
   simp only [instr_Encode.l0] at H
   by_cases c2 : x10_1 < (l0.length : Int)
   ·
    rw [if_pos c2] at H
    have c2b0 : decide (x10_1 < (l0.length : Int)) = true := decide_eq_true c2
    clear c2
    by_cases c3 : 0 ≤ x10_1
    ·
     rw [if_pos c3] at H
     have c3b0 : decide (0 ≤ x10_1) = true := decide_eq_true c3
     clear c3
     by_cases c4 : x10_1 < (l0.length : Int)
     ·
      rw [if_pos c4] at H
      have c4b0 : decide (x10_1 < (l0.length : Int)) = true := decide_eq_true c4
      clear c4
      replace H := Option.bind_eq_some_iff.mp H
      obtain ⟨t371, A50, H⟩ := H
      replace H : (if t371 = 0 then (some (([] : List Int), 17)) else (if ((rd_T77 l0 x10_1).f2) < 0 then (instr_Encode.j1 k1 x4_1 t371 l0 (l0.length : Int) x10_1 true ((rd_T77 l0 x10_1).f0) ((rd_T77 l0 x10_1).f1) ((rd_T77 l0 x10_1).f2) ((rd_T77 l0 x10_1).f3)) else (if 0 ≤ (wrap64 (8 * (wrap64 (t371 - 1)))) then (instr_Encode.j1 k1 x4_1 t371 l0 (l0.length : Int) x10_1 (decide (((rd_T77 l0 x10_1).f2) ≥ (shl .i64 1 (wrap64 (8 * (wrap64 (t371 - 1))))))) ((rd_T77 l0 x10_1).f0) ((rd_T77 l0 x10_1).f1) ((rd_T77 l0 x10_1).f2) ((rd_T77 l0 x10_1).f3)) else (none)))) = some (r1, r2) := H
      have A5 := Aside0.mk A50
      clear A50
      by_cases c6 : t371 = 0
      ·
       rw [if_pos c6] at H
       have c6b0 : (t371 == 0) = true := beq_iff_eq.mpr c6
       have c6b1 : (t371 != 0) = false := bne_eq_false_iff_eq.mpr c6
       clear c6
       simp only [Option.some.injEq, Prod.mk.injEq] at H
       obtain ⟨rfl, rfl⟩ := H
       have p369 : 0 ≤ (x10_1 : Int) := of_decide_eq_true A_
       have q369 : x10_1 < (l0.length : Int) := of_decide_eq_true A_
       obtain ⟨ad369, e369, hx369_0, hx369_1, hx369_2, hx369_3⟩ := at_T77 HR0.out x10_1 p369 q369
       cases e369
       replace hx369_0 := h_ HB hx369_0
       replace hx369_1 := h_ HB hx369_1
       replace hx369_2 := h_ HB hx369_2
       replace hx369_3 := h_ HB hx369_3
       replace p369 := eq_true p369
       replace q369 := eq_true q369
       go_wp2_with (first | ((with_reducible refine d_ 6 ?_); refine X_ 6 #[.int .i64 0, .int .i64 0, .int .i64 0, .int .i64 0] 77 ?_; intro gb370 hg w7 hbox hb; have HO_4 := rb_ HO_4 hb; have BK370 := Aside0.mk hbox; have GW370 := Aside0.mk (s_ hg); have GE370 := GW370; have HB := bs_ hb; clear hb hbox hg; obtain ⟨hcz8_0, hcz8_1, hcz8_2, hcz8_3, hfz8_0, hfz8_1, hfz8_2, hfz8_3⟩ := c4_ BK370.out) | (go_at_call 62; (with_reducible refine (instr_Size.calls k1 ((rd_T77 l0 x10_1).f1) t371 _ A5.out).mono ?_); rintro e w' ⟨rfl, ⟨nd, rfl⟩⟩; (try first | exact ⟨rfl, _, World.drewN_drewN _ _ _⟩ | exact ⟨rfl, _, Eq.trans (World.drewN_drewN _ _ _) (congrArg (World.drewN _) (Nat.add_assoc _ _ _))⟩)))
       repeat (go_quiet (first | ((with_reducible refine d_ 6 ?_); refine X_ 6 #[.int .i64 0, .int .i64 0, .int .i64 0, .int .i64 0] 77 ?_; intro gb370 hg w7 hbox hb; have HO_4 := rb_ HO_4 hb; have BK370 := Aside0.mk hbox; have GW370 := Aside0.mk (s_ hg); have GE370 := GW370; have HB := bs_ hb; clear hb hbox hg; obtain ⟨hcz8_0, hcz8_1, hcz8_2, hcz8_3, hfz8_0, hfz8_1, hfz8_2, hfz8_3⟩ := c4_ BK370.out) | (go_at_call 62; (with_reducible refine (instr_Size.calls k1 ((rd_T77 l0 x10_1).f1) t371 _ A5.out).mono ?_); rintro e w' ⟨rfl, ⟨nd, rfl⟩⟩; (try first | exact ⟨rfl, _, World.drewN_drewN _ _ _⟩ | exact ⟨rfl, _, Eq.trans (World.drewN_drewN _ _ _) (congrArg (World.drewN _) (Nat.add_assoc _ _ _))⟩))); try go_wp2_with (first | ((with_reducible refine d_ 6 ?_); refine X_ 6 #[.int .i64 0, .int .i64 0, .int .i64 0, .int .i64 0] 77 ?_; intro gb370 hg w7 hbox hb; have HO_4 := rb_ HO_4 hb; have BK370 := Aside0.mk hbox; have GW370 := Aside0.mk (s_ hg); have GE370 := GW370; have HB := bs_ hb; clear hb hbox hg; obtain ⟨hcz8_0, hcz8_1, hcz8_2, hcz8_3, hfz8_0, hfz8_1, hfz8_2, hfz8_3⟩ := c4_ BK370.out) | (go_at_call 62; (with_reducible refine (instr_Size.calls k1 ((rd_T77 l0 x10_1).f1) t371 _ A5.out).mono ?_); rintro e w' ⟨rfl, ⟨nd, rfl⟩⟩; (try first | exact ⟨rfl, _, World.drewN_drewN _ _ _⟩ | exact ⟨rfl, _, Eq.trans (World.drewN_drewN _ _ _) (congrArg (World.drewN _) (Nat.add_assoc _ _ _))⟩))))
       go_ret2
       exact ⟨_, E_, by first | exact Kd.R_nil _ _ _ _ _ | exact Kd.N_nil _ _ _ _ _ | exact Kd.V_nil _ _ _ _ _ | exact Kd.Q_nil _ _ _ _ _ | exact Kd.S_nil _ _ _ _ _, B_⟩
      ·
       rw [if_neg c6] at H
       have c6b0 : (t371 == 0) = false := beq_eq_false_iff_ne.mpr c6
       have c6b1 : (t371 != 0) = true := bne_iff_ne.mpr c6
       have HC9 := Aside0.mk H
       clear H
       have p369 : 0 ≤ (x10_1 : Int) := of_decide_eq_true A_
       have q369 : x10_1 < (l0.length : Int) := of_decide_eq_true A_
       obtain ⟨ad369, e369, hx369_0, hx369_1, hx369_2, hx369_3⟩ := at_T77 HR0.out x10_1 p369 q369
       cases e369
       replace hx369_0 := h_ HB hx369_0
       replace hx369_1 := h_ HB hx369_1
       replace hx369_2 := h_ HB hx369_2
       replace hx369_3 := h_ HB hx369_3
       replace p369 := eq_true p369
       replace q369 := eq_true q369
       go_upto_region 8 with (first | ((with_reducible refine d_ 6 ?_); refine X_ 6 #[.int .i64 0, .int .i64 0, .int .i64 0, .int .i64 0] 77 ?_; intro gb370 hg w10 hbox hb; have HO_4 := rb_ HO_4 hb; have BK370 := Aside0.mk hbox; have GW370 := Aside0.mk (s_ hg); have GE370 := GW370; have HB := bs_ hb; clear hb hbox hg; obtain ⟨hcz11_0, hcz11_1, hcz11_2, hcz11_3, hfz11_0, hfz11_1, hfz11_2, hfz11_3⟩ := c4_ BK370.out) | (go_at_call 62; (with_reducible refine (instr_Size.calls k1 ((rd_T77 l0 x10_1).f1) t371 _ A5.out).mono ?_); rintro e w' ⟨rfl, ⟨nd, rfl⟩⟩; (try first | exact ⟨rfl, _, World.drewN_drewN _ _ _⟩ | exact ⟨rfl, _, Eq.trans (World.drewN_drewN _ _ _) (congrArg (World.drewN _) (Nat.add_assoc _ _ _))⟩)))
       repeat (go_quiet (first | ((with_reducible refine d_ 6 ?_); refine X_ 6 #[.int .i64 0, .int .i64 0, .int .i64 0, .int .i64 0] 77 ?_; intro gb370 hg w10 hbox hb; have HO_4 := rb_ HO_4 hb; have BK370 := Aside0.mk hbox; have GW370 := Aside0.mk (s_ hg); have GE370 := GW370; have HB := bs_ hb; clear hb hbox hg; obtain ⟨hcz11_0, hcz11_1, hcz11_2, hcz11_3, hfz11_0, hfz11_1, hfz11_2, hfz11_3⟩ := c4_ BK370.out) | (go_at_call 62; (with_reducible refine (instr_Size.calls k1 ((rd_T77 l0 x10_1).f1) t371 _ A5.out).mono ?_); rintro e w' ⟨rfl, ⟨nd, rfl⟩⟩; (try first | exact ⟨rfl, _, World.drewN_drewN _ _ _⟩ | exact ⟨rfl, _, Eq.trans (World.drewN_drewN _ _ _) (congrArg (World.drewN _) (Nat.add_assoc _ _ _))⟩))); go_upto_region 8 with (first | ((with_reducible refine d_ 6 ?_); refine X_ 6 #[.int .i64 0, .int .i64 0, .int .i64 0, .int .i64 0] 77 ?_; intro gb370 hg w10 hbox hb; have HO_4 := rb_ HO_4 hb; have BK370 := Aside0.mk hbox; have GW370 := Aside0.mk (s_ hg); have GE370 := GW370; have HB := bs_ hb; clear hb hbox hg; obtain ⟨hcz11_0, hcz11_1, hcz11_2, hcz11_3, hfz11_0, hfz11_1, hfz11_2, hfz11_3⟩ := c4_ BK370.out) | (go_at_call 62; (with_reducible refine (instr_Size.calls k1 ((rd_T77 l0 x10_1).f1) t371 _ A5.out).mono ?_); rintro e w' ⟨rfl, ⟨nd, rfl⟩⟩; (try first | exact ⟨rfl, _, World.drewN_drewN _ _ _⟩ | exact ⟨rfl, _, Eq.trans (World.drewN_drewN _ _ _) (congrArg (World.drewN _) (Nat.add_assoc _ _ _))⟩))))
       (try simp only [Act.put, List.setIfInBounds_toArray, List.set_cons_zero, List.set_cons_succ])
       go_cut [30] (fun v30 wc => ∃ (kq : Nat) (x30_8 : Bool), v30 = .bool x30_8 ∧ Aside0 (instr_Encode.j1 kq x4_1 t371 l0 (l0.length : Int) x10_1 x30_8 ((rd_T77 l0 x10_1).f0) ((rd_T77 l0 x10_1).f1) ((rd_T77 l0 x10_1).f2) ((rd_T77 l0 x10_1).f3) = some (r1, r2)) ∧ Aside0 (kq ≤ k1) ∧ Aside0 (Kd.R (Kd.int .u8) 5 wc w.heap.size (fun _ => True) u4 x4_1) ∧ Aside0 (wc.heap[gb370]? = some (.cells #[.int .i64 ((rd_T77 l0 x10_1).f0), .int .i64 ((rd_T77 l0 x10_1).f1), .int .i64 ((rd_T77 l0 x10_1).f2), .int .i64 ((rd_T77 l0 x10_1).f3)] 77 (0, 0))) ∧ Aside0 (Below w.heap.size w wc))
       case first =>
        have H := HC9.out
        clear HC9
        by_cases c12 : ((rd_T77 l0 x10_1).f2) < 0
        ·
         rw [if_pos c12] at H
         have c12b0 : decide (((rd_T77 l0 x10_1).f2) < 0) = true := decide_eq_true c12
         clear c12
         (first | rw [c12b0] | (simp only [i64_w, i32_w]; rw [c12b0]) | skip)
         have H' := Aside0.mk H
         clear H
         obtain ⟨hcz13_0, hcz13_1, hcz13_2, hcz13_3, hfz13_0, hfz13_1, hfz13_2, hfz13_3⟩ := c4_ BK370.out
         go_wp2
         repeat (go_quiet (fail); try go_wp2)
         go_meet
         case rel => exact ⟨_, (true), R_, H', ⟨by have := HK1.out; first | omega | exact Nat.le_refl _⟩, ⟨by (with_reducible repeat (first | apply Kd.R_alloc | apply Kd.R_drewN | apply Kd.R_drew)); exact Kd.R_mono (Kd.R_far (p := ⟨gb370, 3, none⟩) (Kd.R_far (p := ⟨gb370, 2, none⟩) (Kd.R_far (p := ⟨gb370, 1, none⟩) (Kd.R_far (p := ⟨gb370, 0, none⟩) (Kd.R_types HO_4.out BK370.out (by decide)) (fun _ hk => hk.2) (.int .i64 ((rd_T77 l0 x10_1).f0))) (fun _ hk => hk.2) (.int .i64 ((rd_T77 l0 x10_1).f1))) (fun _ hk => hk.2) (.int .i64 ((rd_T77 l0 x10_1).f2))) (fun _ hk => hk.2) (.int .i64 ((rd_T77 l0 x10_1).f3))) (fun _ hk => trivial)⟩, ⟨P_⟩, ⟨B_⟩⟩
        ·
         rw [if_neg c12] at H
         have c12b0 : decide (((rd_T77 l0 x10_1).f2) < 0) = false := decide_eq_false c12
         clear c12
         (first | rw [c12b0] | (simp only [i64_w, i32_w]; rw [c12b0]) | skip)
         obtain ⟨ji14, hji14⟩ : ∃ j_ : Int, (wrap64 (8 * (wrap64 (t371 - 1)))) = j_ := ⟨_, rfl⟩
         replace H : (if 0 ≤ (ji14) then (instr_Encode.j1 k1 x4_1 t371 l0 (l0.length : Int) x10_1 (decide (((rd_T77 l0 x10_1).f2) ≥ (shl .i64 1 (ji14)))) ((rd_T77 l0 x10_1).f0) ((rd_T77 l0 x10_1).f1) ((rd_T77 l0 x10_1).f2) ((rd_T77 l0 x10_1).f3)) else (none)) = some (r1, r2) := by first | (rw [hji14] at H; exact H) | (simp only [hji14] at H ⊢; exact H)
         have hji14w : (IntKind.i64.wrap (8 * (wrap64 (t371 - 1)))) = ji14 := (i64_w _).trans hji14
         by_cases c15 : 0 ≤ (ji14)
         ·
          rw [if_pos c15] at H
          have c15b0 := eq_true c15
          have c15b1 : decide (0 ≤ (ji14)) = true := decide_eq_true c15
          clear c15
          obtain ⟨ji16, hji16⟩ : ∃ j_ : Int, (shl .i64 1 (ji14)) = j_ := ⟨_, rfl⟩
          replace H : (instr_Encode.j1 k1 x4_1 t371 l0 (l0.length : Int) x10_1 (decide (((rd_T77 l0 x10_1).f2) ≥ (ji16))) ((rd_T77 l0 x10_1).f0) ((rd_T77 l0 x10_1).f1) ((rd_T77 l0 x10_1).f2) ((rd_T77 l0 x10_1).f3)) = some (r1, r2) := by first | (rw [hji16] at H; exact H) | (simp only [hji16] at H ⊢; exact H)
          have hji16_ : (IntKind.i64.wrap (1 * 2 ^ min (ji14).toNat 64)) = ji16 := hji16
          have hji16z : (ji14) ≤ 64 → (IntKind.i64.wrap (1 * 2 ^ (ji14).toNat)) = ji16 := shl_small hji16
          have hji16u : (IntKind.i64.wrap (2 ^ min (ji14).toNat 64)) = ji16 := by have h_ := hji16_; rw [Int.one_mul] at h_; exact h_
          have hji16v : (ji14) ≤ 64 → (IntKind.i64.wrap (2 ^ (ji14).toNat)) = ji16 := fun hle_ => by have h_ := hji16z hle_; rw [Int.one_mul] at h_; exact h_
          have hji16y : (wrap64 (1 * 2 ^ min (ji14).toNat 64)) = ji16 := (i64_w _).symm.trans hji16_
          have hji16x : (ji14) ≤ 64 → (wrap64 (1 * 2 ^ (ji14).toNat)) = ji16 := fun h_ => (i64_w _).symm.trans (hji16z h_)
          have H' := Aside0.mk H
          clear H
          obtain ⟨hcz17_0, hcz17_1, hcz17_2, hcz17_3, hfz17_0, hfz17_1, hfz17_2, hfz17_3⟩ := c4_ BK370.out
          go_wp2
          repeat (go_quiet (fail); try go_wp2)
          go_meet
          case rel => exact ⟨_, (decide (((rd_T77 l0 x10_1).f2) ≥ (ji16))), (by first | rfl | (simp; done) | (simp only [← hji16] <;> (first | rfl | simp)) | (simp [*]; done)), H', ⟨by have := HK1.out; first | omega | exact Nat.le_refl _⟩, ⟨by (with_reducible repeat (first | apply Kd.R_alloc | apply Kd.R_drewN | apply Kd.R_drew)); exact Kd.R_mono (Kd.R_far (p := ⟨gb370, 3, none⟩) (Kd.R_far (p := ⟨gb370, 2, none⟩) (Kd.R_far (p := ⟨gb370, 1, none⟩) (Kd.R_far (p := ⟨gb370, 0, none⟩) (Kd.R_types HO_4.out BK370.out (by decide)) (fun _ hk => hk.2) (.int .i64 ((rd_T77 l0 x10_1).f0))) (fun _ hk => hk.2) (.int .i64 ((rd_T77 l0 x10_1).f1))) (fun _ hk => hk.2) (.int .i64 ((rd_T77 l0 x10_1).f2))) (fun _ hk => hk.2) (.int .i64 ((rd_T77 l0 x10_1).f3))) (fun _ hk => trivial)⟩, ⟨P_⟩, ⟨B_⟩⟩
         ·
          rw [if_neg c15] at H
          exact absurd H (by simp)
       case rest =>
        clear HC9 c2b0 c3b0 c4b0 c6 c6b0 c6b1 hcz11_0 hcz11_1 hcz11_2 hcz11_3 hfz11_0 hfz11_1 hfz11_2 hfz11_3 hx369_0 hx369_1 hx369_2 hx369_3 p369 q369
        obtain ⟨kq, x30_8, rfl, HA, HJ8, HO_4, BK370, HB⟩ := hcut
        cases kq with
        | zero => exact absurd HA.out (by simp [instr_Encode.j1])
        | succ kj8 =>
         have H := HA.out
         clear HA
         simp only [instr_Encode.j1] at H
         by_cases c18 : x30_8 = true
         ·
          subst c18
          have H1 : (some (([] : List Int), 1)) = some (r1, r2) := by rw [if_pos rfl] at H; exact H
          clear H
          have H := H1
          clear H1
          simp only [Option.some.injEq, Prod.mk.injEq] at H
          obtain ⟨rfl, rfl⟩ := H
          go_wp2
          repeat (go_quiet (fail); try go_wp2)
          go_ret2
          exact ⟨_, E_, by first | exact Kd.R_nil _ _ _ _ _ | exact Kd.N_nil _ _ _ _ _ | exact Kd.V_nil _ _ _ _ _ | exact Kd.Q_nil _ _ _ _ _ | exact Kd.S_nil _ _ _ _ _, B_⟩
         ·
          replace c18 := Bool.eq_false_iff.mpr c18
          subst c18
          have H1 : (if x4_1.length < 140737488355328 then ((some (x4_1 ++ [(((rd_T77 l0 x10_1).f1)) % 256] : List Int)).bind fun y372 => (if t371 = 3 then (if y372.length < 140737488355328 then ((some (y372 ++ [(((rd_T77 l0 x10_1).f2) / 256) % 256] : List Int)).bind fun y375 => (if t371 > 1 then (if y375.length < 140737488355328 then (instr_Encode.l0 kj8 (y375 ++ [(((rd_T77 l0 x10_1).f2)) % 256]) l0 (l0.length : Int) (wrap64 (x10_1 + 1))) else (none)) else (instr_Encode.l0 kj8 y375 l0 (l0.length : Int) (wrap64 (x10_1 + 1))))) else (none)) else (if t371 > 1 then (if y372.length < 140737488355328 then (instr_Encode.l0 kj8 (y372 ++ [(((rd_T77 l0 x10_1).f2)) % 256]) l0 (l0.length : Int) (wrap64 (x10_1 + 1))) else (none)) else (instr_Encode.l0 kj8 y372 l0 (l0.length : Int) (wrap64 (x10_1 + 1)))))) else (none)) = some (r1, r2) := by rw [if_neg (show ¬ (false = true) by decide)] at H; exact H
          clear H
          have H := H1
          clear H1
          by_cases c19 : x4_1.length < 140737488355328
          ·
           rw [if_pos c19] at H
           have LMc19 := Aside0.mk c19
           clear c19
           obtain ⟨y372, hy372⟩ : ∃ y_ : List Int, y_ = (x4_1 ++ [(((rd_T77 l0 x10_1).f1)) % 256]) := ⟨_, rfl⟩
           replace H : (if t371 = 3 then (if y372.length < 140737488355328 then ((some (y372 ++ [(((rd_T77 l0 x10_1).f2) / 256) % 256] : List Int)).bind fun y375 => (if t371 > 1 then (if y375.length < 140737488355328 then (instr_Encode.l0 kj8 (y375 ++ [(((rd_T77 l0 x10_1).f2)) % 256]) l0 (l0.length : Int) (wrap64 (x10_1 + 1))) else (none)) else (instr_Encode.l0 kj8 y375 l0 (l0.length : Int) (wrap64 (x10_1 + 1))))) else (none)) else (if t371 > 1 then (if y372.length < 140737488355328 then (instr_Encode.l0 kj8 (y372 ++ [(((rd_T77 l0 x10_1).f2)) % 256]) l0 (l0.length : Int) (wrap64 (x10_1 + 1))) else (none)) else (instr_Encode.l0 kj8 y372 l0 (l0.length : Int) (wrap64 (x10_1 + 1))))) = some (r1, r2) := by first | (rw [hy372]; with_reducible exact H) | (have H2_ := (Option.bind_some _ _).symm.trans H; rw [hy372]; with_reducible exact H2_) | (have H2_ := (Option.bind_some _ _).symm.trans H; with_reducible exact H2_) | with_reducible exact H | (rw [hy372]; exact H) | exact H
           have Ny372 := Aside0.mk hy372
           clear hy372
           by_cases c20 : t371 = 3
           ·
            rw [if_pos c20] at H
            have c20b0 : (t371 == 3) = true := beq_iff_eq.mpr c20
            have c20b1 : (t371 != 3) = false := bne_eq_false_iff_eq.mpr c20
            clear c20
            by_cases c21 : y372.length < 140737488355328
            ·
             rw [if_pos c21] at H
             have LMc21 := Aside0.mk c21
             clear c21
             obtain ⟨y375, hy375⟩ : ∃ y_ : List Int, y_ = (y372 ++ [(((rd_T77 l0 x10_1).f2) / 256) % 256]) := ⟨_, rfl⟩
             replace H : (if t371 > 1 then (if y375.length < 140737488355328 then (instr_Encode.l0 kj8 (y375 ++ [(((rd_T77 l0 x10_1).f2)) % 256]) l0 (l0.length : Int) (wrap64 (x10_1 + 1))) else (none)) else (instr_Encode.l0 kj8 y375 l0 (l0.length : Int) (wrap64 (x10_1 + 1)))) = some (r1, r2) := by first | (rw [hy375]; with_reducible exact H) | (have H2_ := (Option.bind_some _ _).symm.trans H; rw [hy375]; with_reducible exact H2_) | (have H2_ := (Option.bind_some _ _).symm.trans H; with_reducible exact H2_) | with_reducible exact H | (rw [hy375]; exact H) | exact H
             have Ny375 := Aside0.mk hy375
             clear hy375
             by_cases c22 : t371 > 1
             ·
              rw [if_pos c22] at H
              have c22b0 : decide (1 < t371) = true := decide_eq_true c22
              clear c22
              by_cases c23 : y375.length < 140737488355328
              ·
               rw [if_pos c23] at H
               have LMc23 := Aside0.mk c23
               clear c23
               obtain ⟨y378, hy378⟩ : ∃ y_ : List Int, y_ = (y375 ++ [(((rd_T77 l0 x10_1).f2)) % 256]) := ⟨_, rfl⟩
               replace H : (instr_Encode.l0 kj8 y378 l0 (l0.length : Int) (wrap64 (x10_1 + 1))) = some (r1, r2) := by first | (rw [hy378]; with_reducible exact H) | (have H2_ := (Option.bind_some _ _).symm.trans H; rw [hy378]; with_reducible exact H2_) | (have H2_ := (Option.bind_some _ _).symm.trans H; with_reducible exact H2_) | with_reducible exact H | (rw [hy378]; exact H) | exact H
               have Ny378 := Aside0.mk hy378
               clear hy378
               have H' := Aside0.mk H
               clear H
               obtain ⟨hcz24_0, hcz24_1, hcz24_2, hcz24_3, hfz24_0, hfz24_1, hfz24_2, hfz24_3⟩ := c4_ BK370.out
               go_wp2_with (first | ((with_reducible refine gate_builtin (b := .append) (xs := #[.tmp 31, .tmp 35]) rfl ?_); at_builtin; refine Kd.R_append (Kd.int .u8) (w0 := w) w.heap.size rfl (.tmp 31) (.tmp 35) 69 5 (.int .u8 0) 1 rfl Tryd.underlying69 info5 rfl (by decide) (by omega) u4 x4_1 ((((rd_T77 l0 x10_1).f1)) % 256) [.int .u8 ((((rd_T77 l0 x10_1).f1)) % 256)] (fun _ => True) (fun _ => False) rfl rfl ?aP (fun _ hk => hk.elim) ?aF ?aO ?aB ?aS ?aL ?_; (case aP => exact rfl); (case aB => exact B_); (case aF => exact (fun _ _ => trivial)); (case aO => exact (Q_ HO_4.out)); (case aS => exact (below_size B_)); (case aL => have := LMc19.out; omega); intro v373 w25 ho hb hg hat; rw [← Ny372.out] at ho; have BK370 := Aside0.mk (blk_grown (g := gb370) (o := .cells #[.int .i64 ((rd_T77 l0 x10_1).f0), .int .i64 ((rd_T77 l0 x10_1).f1), .int .i64 ((rd_T77 l0 x10_1).f2), .int .i64 ((rd_T77 l0 x10_1).f3)] 77 (0, 0)) M_ hg (Kd.R_ne HO_4.out BK370.out (by decide))); have HO374 := Aside0.mk (ho); have HB := Aside0.mk (hb); clear HO_4; clear ho hb hg hat; obtain ⟨hcz26_0, hcz26_1, hcz26_2, hcz26_3, hfz26_0, hfz26_1, hfz26_2, hfz26_3⟩ := c4_ BK370.out) | ((with_reducible refine gate_builtin (b := .append) (xs := #[.tmp 39, .tmp 44]) rfl ?_); at_builtin; refine Kd.R_append (Kd.int .u8) (w0 := w) w.heap.size rfl (.tmp 39) (.tmp 44) 69 5 (.int .u8 0) 1 rfl Tryd.underlying69 info5 rfl (by decide) (by omega) v373 y372 ((((rd_T77 l0 x10_1).f2) / 256) % 256) [.int .u8 ((((rd_T77 l0 x10_1).f2) / 256) % 256)] (fun _ => True) (fun _ => False) rfl rfl ?aP (fun _ hk => hk.elim) ?aF ?aO ?aB ?aS ?aL ?_; (case aP => exact rfl); (case aB => exact B_); (case aF => exact (fun _ _ => trivial)); (case aO => exact (Q_ HO374.out)); (case aS => exact (below_size B_)); (case aL => have := LMc21.out; omega); intro v376 w27 ho hb hg hat; rw [← Ny375.out] at ho; have BK370 := Aside0.mk (blk_grown (g := gb370) (o := .cells #[.int .i64 ((rd_T77 l0 x10_1).f0), .int .i64 ((rd_T77 l0 x10_1).f1), .int .i64 ((rd_T77 l0 x10_1).f2), .int .i64 ((rd_T77 l0 x10_1).f3)] 77 (0, 0)) M_ hg (Kd.R_ne HO374.out BK370.out (by decide))); have HO377 := Aside0.mk (ho); have HB := Aside0.mk (hb); clear HO374; clear ho hb hg hat; obtain ⟨hcz28_0, hcz28_1, hcz28_2, hcz28_3, hfz28_0, hfz28_1, hfz28_2, hfz28_3⟩ := c4_ BK370.out) | ((with_reducible refine gate_builtin (b := .append) (xs := #[.tmp 48, .tmp 52]) rfl ?_); at_builtin; refine Kd.R_append (Kd.int .u8) (w0 := w) w.heap.size rfl (.tmp 48) (.tmp 52) 69 5 (.int .u8 0) 1 rfl Tryd.underlying69 info5 rfl (by decide) (by omega) v376 y375 ((((rd_T77 l0 x10_1).f2)) % 256) [.int .u8 ((((rd_T77 l0 x10_1).f2)) % 256)] (fun _ => True) (fun _ => False) rfl rfl ?aP (fun _ hk => hk.elim) ?aF ?aO ?aB ?aS ?aL ?_; (case aP => exact rfl); (case aB => exact B_); (case aF => exact (fun _ _ => trivial)); (case aO => exact (Q_ HO377.out)); (case aS => exact (below_size B_)); (case aL => have := LMc23.out; omega); intro v379 w29 ho hb hg hat; rw [← Ny378.out] at ho; have BK370 := Aside0.mk (blk_grown (g := gb370) (o := .cells #[.int .i64 ((rd_T77 l0 x10_1).f0), .int .i64 ((rd_T77 l0 x10_1).f1), .int .i64 ((rd_T77 l0 x10_1).f2), .int .i64 ((rd_T77 l0 x10_1).f3)] 77 (0, 0)) M_ hg (Kd.R_ne HO377.out BK370.out (by decide))); have HO380 := Aside0.mk (ho); have HB := Aside0.mk (hb); clear HO377; clear ho hb hg hat))
               repeat (go_quiet (first | ((with_reducible refine gate_builtin (b := .append) (xs := #[.tmp 31, .tmp 35]) rfl ?_); at_builtin; refine Kd.R_append (Kd.int .u8) (w0 := w) w.heap.size rfl (.tmp 31) (.tmp 35) 69 5 (.int .u8 0) 1 rfl Tryd.underlying69 info5 rfl (by decide) (by omega) u4 x4_1 ((((rd_T77 l0 x10_1).f1)) % 256) [.int .u8 ((((rd_T77 l0 x10_1).f1)) % 256)] (fun _ => True) (fun _ => False) rfl rfl ?aP (fun _ hk => hk.elim) ?aF ?aO ?aB ?aS ?aL ?_; (case aP => exact rfl); (case aB => exact B_); (case aF => exact (fun _ _ => trivial)); (case aO => exact (Q_ HO_4.out)); (case aS => exact (below_size B_)); (case aL => have := LMc19.out; omega); intro v373 w25 ho hb hg hat; rw [← Ny372.out] at ho; have BK370 := Aside0.mk (blk_grown (g := gb370) (o := .cells #[.int .i64 ((rd_T77 l0 x10_1).f0), .int .i64 ((rd_T77 l0 x10_1).f1), .int .i64 ((rd_T77 l0 x10_1).f2), .int .i64 ((rd_T77 l0 x10_1).f3)] 77 (0, 0)) M_ hg (Kd.R_ne HO_4.out BK370.out (by decide))); have HO374 := Aside0.mk (ho); have HB := Aside0.mk (hb); clear HO_4; clear ho hb hg hat; obtain ⟨hcz26_0, hcz26_1, hcz26_2, hcz26_3, hfz26_0, hfz26_1, hfz26_2, hfz26_3⟩ := c4_ BK370.out) | ((with_reducible refine gate_builtin (b := .append) (xs := #[.tmp 39, .tmp 44]) rfl ?_); at_builtin; refine Kd.R_append (Kd.int .u8) (w0 := w) w.heap.size rfl (.tmp 39) (.tmp 44) 69 5 (.int .u8 0) 1 rfl Tryd.underlying69 info5 rfl (by decide) (by omega) v373 y372 ((((rd_T77 l0 x10_1).f2) / 256) % 256) [.int .u8 ((((rd_T77 l0 x10_1).f2) / 256) % 256)] (fun _ => True) (fun _ => False) rfl rfl ?aP (fun _ hk => hk.elim) ?aF ?aO ?aB ?aS ?aL ?_; (case aP => exact rfl); (case aB => exact B_); (case aF => exact (fun _ _ => trivial)); (case aO => exact (Q_ HO374.out)); (case aS => exact (below_size B_)); (case aL => have := LMc21.out; omega); intro v376 w27 ho hb hg hat; rw [← Ny375.out] at ho; have BK370 := Aside0.mk (blk_grown (g := gb370) (o := .cells #[.int .i64 ((rd_T77 l0 x10_1).f0), .int .i64 ((rd_T77 l0 x10_1).f1), .int .i64 ((rd_T77 l0 x10_1).f2), .int .i64 ((rd_T77 l0 x10_1).f3)] 77 (0, 0)) M_ hg (Kd.R_ne HO374.out BK370.out (by decide))); have HO377 := Aside0.mk (ho); have HB := Aside0.mk (hb); clear HO374; clear ho hb hg hat; obtain ⟨hcz28_0, hcz28_1, hcz28_2, hcz28_3, hfz28_0, hfz28_1, hfz28_2, hfz28_3⟩ := c4_ BK370.out) | ((with_reducible refine gate_builtin (b := .append) (xs := #[.tmp 48, .tmp 52]) rfl ?_); at_builtin; refine Kd.R_append (Kd.int .u8) (w0 := w) w.heap.size rfl (.tmp 48) (.tmp 52) 69 5 (.int .u8 0) 1 rfl Tryd.underlying69 info5 rfl (by decide) (by omega) v376 y375 ((((rd_T77 l0 x10_1).f2)) % 256) [.int .u8 ((((rd_T77 l0 x10_1).f2)) % 256)] (fun _ => True) (fun _ => False) rfl rfl ?aP (fun _ hk => hk.elim) ?aF ?aO ?aB ?aS ?aL ?_; (case aP => exact rfl); (case aB => exact B_); (case aF => exact (fun _ _ => trivial)); (case aO => exact (Q_ HO377.out)); (case aS => exact (below_size B_)); (case aL => have := LMc23.out; omega); intro v379 w29 ho hb hg hat; rw [← Ny378.out] at ho; have BK370 := Aside0.mk (blk_grown (g := gb370) (o := .cells #[.int .i64 ((rd_T77 l0 x10_1).f0), .int .i64 ((rd_T77 l0 x10_1).f1), .int .i64 ((rd_T77 l0 x10_1).f2), .int .i64 ((rd_T77 l0 x10_1).f3)] 77 (0, 0)) M_ hg (Kd.R_ne HO377.out BK370.out (by decide))); have HO380 := Aside0.mk (ho); have HB := Aside0.mk (hb); clear HO377; clear ho hb hg hat)); try go_wp2_with (first | ((with_reducible refine gate_builtin (b := .append) (xs := #[.tmp 31, .tmp 35]) rfl ?_); at_builtin; refine Kd.R_append (Kd.int .u8) (w0 := w) w.heap.size rfl (.tmp 31) (.tmp 35) 69 5 (.int .u8 0) 1 rfl Tryd.underlying69 info5 rfl (by decide) (by omega) u4 x4_1 ((((rd_T77 l0 x10_1).f1)) % 256) [.int .u8 ((((rd_T77 l0 x10_1).f1)) % 256)] (fun _ => True) (fun _ => False) rfl rfl ?aP (fun _ hk => hk.elim) ?aF ?aO ?aB ?aS ?aL ?_; (case aP => exact rfl); (case aB => exact B_); (case aF => exact (fun _ _ => trivial)); (case aO => exact (Q_ HO_4.out)); (case aS => exact (below_size B_)); (case aL => have := LMc19.out; omega); intro v373 w25 ho hb hg hat; rw [← Ny372.out] at ho; have BK370 := Aside0.mk (blk_grown (g := gb370) (o := .cells #[.int .i64 ((rd_T77 l0 x10_1).f0), .int .i64 ((rd_T77 l0 x10_1).f1), .int .i64 ((rd_T77 l0 x10_1).f2), .int .i64 ((rd_T77 l0 x10_1).f3)] 77 (0, 0)) M_ hg (Kd.R_ne HO_4.out BK370.out (by decide))); have HO374 := Aside0.mk (ho); have HB := Aside0.mk (hb); clear HO_4; clear ho hb hg hat; obtain ⟨hcz26_0, hcz26_1, hcz26_2, hcz26_3, hfz26_0, hfz26_1, hfz26_2, hfz26_3⟩ := c4_ BK370.out) | ((with_reducible refine gate_builtin (b := .append) (xs := #[.tmp 39, .tmp 44]) rfl ?_); at_builtin; refine Kd.R_append (Kd.int .u8) (w0 := w) w.heap.size rfl (.tmp 39) (.tmp 44) 69 5 (.int .u8 0) 1 rfl Tryd.underlying69 info5 rfl (by decide) (by omega) v373 y372 ((((rd_T77 l0 x10_1).f2) / 256) % 256) [.int .u8 ((((rd_T77 l0 x10_1).f2) / 256) % 256)] (fun _ => True) (fun _ => False) rfl rfl ?aP (fun _ hk => hk.elim) ?aF ?aO ?aB ?aS ?aL ?_; (case aP => exact rfl); (case aB => exact B_); (case aF => exact (fun _ _ => trivial)); (case aO => exact (Q_ HO374.out)); (case aS => exact (below_size B_)); (case aL => have := LMc21.out; omega); intro v376 w27 ho hb hg hat; rw [← Ny375.out] at ho; have BK370 := Aside0.mk (blk_grown (g := gb370) (o := .cells #[.int .i64 ((rd_T77 l0 x10_1).f0), .int .i64 ((rd_T77 l0 x10_1).f1), .int .i64 ((rd_T77 l0 x10_1).f2), .int .i64 ((rd_T77 l0 x10_1).f3)] 77 (0, 0)) M_ hg (Kd.R_ne HO374.out BK370.out (by decide))); have HO377 := Aside0.mk (ho); have HB := Aside0.mk (hb); clear HO374; clear ho hb hg hat; obtain ⟨hcz28_0, hcz28_1, hcz28_2, hcz28_3, hfz28_0, hfz28_1, hfz28_2, hfz28_3⟩ := c4_ BK370.out) | ((with_reducible refine gate_builtin (b := .append) (xs := #[.tmp 48, .tmp 52]) rfl ?_); at_builtin; refine Kd.R_append (Kd.int .u8) (w0 := w) w.heap.size rfl (.tmp 48) (.tmp 52) 69 5 (.int .u8 0) 1 rfl Tryd.underlying69 info5 rfl (by decide) (by omega) v376 y375 ((((rd_T77 l0 x10_1).f2)) % 256) [.int .u8 ((((rd_T77 l0 x10_1).f2)) % 256)] (fun _ => True) (fun _ => False) rfl rfl ?aP (fun _ hk => hk.elim) ?aF ?aO ?aB ?aS ?aL ?_; (case aP => exact rfl); (case aB => exact B_); (case aF => exact (fun _ _ => trivial)); (case aO => exact (Q_ HO377.out)); (case aS => exact (below_size B_)); (case aL => have := LMc23.out; omega); intro v379 w29 ho hb hg hat; rw [← Ny378.out] at ho; have BK370 := Aside0.mk (blk_grown (g := gb370) (o := .cells #[.int .i64 ((rd_T77 l0 x10_1).f0), .int .i64 ((rd_T77 l0 x10_1).f1), .int .i64 ((rd_T77 l0 x10_1).f2), .int .i64 ((rd_T77 l0 x10_1).f3)] 77 (0, 0)) M_ hg (Kd.R_ne HO377.out BK370.out (by decide))); have HO380 := Aside0.mk (ho); have HB := Aside0.mk (hb); clear HO377; clear ho hb hg hat)))
               go_roundg kj8
               case measure => have := HK1.out; have := HJ8.out; omega
               case rel => exact ⟨(y378), (wrap64 (x10_1 + 1)), R_, H', ⟨by have := HK1.out; have := HJ8.out; omega⟩, ⟨by (with_reducible repeat (first | apply Kd.R_alloc | apply Kd.R_drewN | apply Kd.R_drew)); exact HO380.out⟩, ⟨B_⟩⟩
              ·
               rw [if_neg c23] at H
               exact absurd H (by simp)
             ·
              rw [if_neg c22] at H
              have c22b0 : decide (1 < t371) = false := decide_eq_false c22
              clear c22
              have H' := Aside0.mk H
              clear H
              obtain ⟨hcz30_0, hcz30_1, hcz30_2, hcz30_3, hfz30_0, hfz30_1, hfz30_2, hfz30_3⟩ := c4_ BK370.out
              go_wp2_with (first | ((with_reducible refine gate_builtin (b := .append) (xs := #[.tmp 31, .tmp 35]) rfl ?_); at_builtin; refine Kd.R_append (Kd.int .u8) (w0 := w) w.heap.size rfl (.tmp 31) (.tmp 35) 69 5 (.int .u8 0) 1 rfl Tryd.underlying69 info5 rfl (by decide) (by omega) u4 x4_1 ((((rd_T77 l0 x10_1).f1)) % 256) [.int .u8 ((((rd_T77 l0 x10_1).f1)) % 256)] (fun _ => True) (fun _ => False) rfl rfl ?aP (fun _ hk => hk.elim) ?aF ?aO ?aB ?aS ?aL ?_; (case aP => exact rfl); (case aB => exact B_); (case aF => exact (fun _ _ => trivial)); (case aO => exact (Q_ HO_4.out)); (case aS => exact (below_size B_)); (case aL => have := LMc19.out; omega); intro v373 w31 ho hb hg hat; rw [← Ny372.out] at ho; have BK370 := Aside0.mk (blk_grown (g := gb370) (o := .cells #[.int .i64 ((rd_T77 l0 x10_1).f0), .int .i64 ((rd_T77 l0 x10_1).f1), .int .i64 ((rd_T77 l0 x10_1).f2), .int .i64 ((rd_T77 l0 x10_1).f3)] 77 (0, 0)) M_ hg (Kd.R_ne HO_4.out BK370.out (by decide))); have HO374 := Aside0.mk (ho); have HB := Aside0.mk (hb); clear HO_4; clear ho hb hg hat; obtain ⟨hcz32_0, hcz32_1, hcz32_2, hcz32_3, hfz32_0, hfz32_1, hfz32_2, hfz32_3⟩ := c4_ BK370.out) | ((with_reducible refine gate_builtin (b := .append) (xs := #[.tmp 39, .tmp 44]) rfl ?_); at_builtin; refine Kd.R_append (Kd.int .u8) (w0 := w) w.heap.size rfl (.tmp 39) (.tmp 44) 69 5 (.int .u8 0) 1 rfl Tryd.underlying69 info5 rfl (by decide) (by omega) v373 y372 ((((rd_T77 l0 x10_1).f2) / 256) % 256) [.int .u8 ((((rd_T77 l0 x10_1).f2) / 256) % 256)] (fun _ => True) (fun _ => False) rfl rfl ?aP (fun _ hk => hk.elim) ?aF ?aO ?aB ?aS ?aL ?_; (case aP => exact rfl); (case aB => exact B_); (case aF => exact (fun _ _ => trivial)); (case aO => exact (Q_ HO374.out)); (case aS => exact (below_size B_)); (case aL => have := LMc21.out; omega); intro v376 w33 ho hb hg hat; rw [← Ny375.out] at ho; have BK370 := Aside0.mk (blk_grown (g := gb370) (o := .cells #[.int .i64 ((rd_T77 l0 x10_1).f0), .int .i64 ((rd_T77 l0 x10_1).f1), .int .i64 ((rd_T77 l0 x10_1).f2), .int .i64 ((rd_T77 l0 x10_1).f3)] 77 (0, 0)) M_ hg (Kd.R_ne HO374.out BK370.out (by decide))); have HO377 := Aside0.mk (ho); have HB := Aside0.mk (hb); clear HO374; clear ho hb hg hat))
              repeat (go_quiet (first | ((with_reducible refine gate_builtin (b := .append) (xs := #[.tmp 31, .tmp 35]) rfl ?_); at_builtin; refine Kd.R_append (Kd.int .u8) (w0 := w) w.heap.size rfl (.tmp 31) (.tmp 35) 69 5 (.int .u8 0) 1 rfl Tryd.underlying69 info5 rfl (by decide) (by omega) u4 x4_1 ((((rd_T77 l0 x10_1).f1)) % 256) [.int .u8 ((((rd_T77 l0 x10_1).f1)) % 256)] (fun _ => True) (fun _ => False) rfl rfl ?aP (fun _ hk => hk.elim) ?aF ?aO ?aB ?aS ?aL ?_; (case aP => exact rfl); (case aB => exact B_); (case aF => exact (fun _ _ => trivial)); (case aO => exact (Q_ HO_4.out)); (case aS => exact (below_size B_)); (case aL => have := LMc19.out; omega); intro v373 w31 ho hb hg hat; rw [← Ny372.out] at ho; have BK370 := Aside0.mk (blk_grown (g := gb370) (o := .cells #[.int .i64 ((rd_T77 l0 x10_1).f0), .int .i64 ((rd_T77 l0 x10_1).f1), .int .i64 ((rd_T77 l0 x10_1).f2), .int .i64 ((rd_T77 l0 x10_1).f3)] 77 (0, 0)) M_ hg (Kd.R_ne HO_4.out BK370.out (by decide))); have HO374 := Aside0.mk (ho); have HB := Aside0.mk (hb); clear HO_4; clear ho hb hg hat; obtain ⟨hcz32_0, hcz32_1, hcz32_2, hcz32_3, hfz32_0, hfz32_1, hfz32_2, hfz32_3⟩ := c4_ BK370.out) | ((with_reducible refine gate_builtin (b := .append) (xs := #[.tmp 39, .tmp 44]) rfl ?_); at_builtin; refine Kd.R_append (Kd.int .u8) (w0 := w) w.heap.size rfl (.tmp 39) (.tmp 44) 69 5 (.int .u8 0) 1 rfl Tryd.underlying69 info5 rfl (by decide) (by omega) v373 y372 ((((rd_T77 l0 x10_1).f2) / 256) % 256) [.int .u8 ((((rd_T77 l0 x10_1).f2) / 256) % 256)] (fun _ => True) (fun _ => False) rfl rfl ?aP (fun _ hk => hk.elim) ?aF ?aO ?aB ?aS ?aL ?_; (case aP => exact rfl); (case aB => exact B_); (case aF => exact (fun _ _ => trivial)); (case aO => exact (Q_ HO374.out)); (case aS => exact (below_size B_)); (case aL => have := LMc21.out; omega); intro v376 w33 ho hb hg hat; rw [← Ny375.out] at ho; have BK370 := Aside0.mk (blk_grown (g := gb370) (o := .cells #[.int .i64 ((rd_T77 l0 x10_1).f0), .int .i64 ((rd_T77 l0 x10_1).f1), .int .i64 ((rd_T77 l0 x10_1).f2), .int .i64 ((rd_T77 l0 x10_1).f3)] 77 (0, 0)) M_ hg (Kd.R_ne HO374.out BK370.out (by decide))); have HO377 := Aside0.mk (ho); have HB := Aside0.mk (hb); clear HO374; clear ho hb hg hat)); try go_wp2_with (first | ((with_reducible refine gate_builtin (b := .append) (xs := #[.tmp 31, .tmp 35]) rfl ?_); at_builtin; refine Kd.R_append (Kd.int .u8) (w0 := w) w.heap.size rfl (.tmp 31) (.tmp 35) 69 5 (.int .u8 0) 1 rfl Tryd.underlying69 info5 rfl (by decide) (by omega) u4 x4_1 ((((rd_T77 l0 x10_1).f1)) % 256) [.int .u8 ((((rd_T77 l0 x10_1).f1)) % 256)] (fun _ => True) (fun _ => False) rfl rfl ?aP (fun _ hk => hk.elim) ?aF ?aO ?aB ?aS ?aL ?_; (case aP => exact rfl); (case aB => exact B_); (case aF => exact (fun _ _ => trivial)); (case aO => exact (Q_ HO_4.out)); (case aS => exact (below_size B_)); (case aL => have := LMc19.out; omega); intro v373 w31 ho hb hg hat; rw [← Ny372.out] at ho; have BK370 := Aside0.mk (blk_grown (g := gb370) (o := .cells #[.int .i64 ((rd_T77 l0 x10_1).f0), .int .i64 ((rd_T77 l0 x10_1).f1), .int .i64 ((rd_T77 l0 x10_1).f2), .int .i64 ((rd_T77 l0 x10_1).f3)] 77 (0, 0)) M_ hg (Kd.R_ne HO_4.out BK370.out (by decide))); have HO374 := Aside0.mk (ho); have HB := Aside0.mk (hb); clear HO_4; clear ho hb hg hat; obtain ⟨hcz32_0, hcz32_1, hcz32_2, hcz32_3, hfz32_0, hfz32_1, hfz32_2, hfz32_3⟩ := c4_ BK370.out) | ((with_reducible refine gate_builtin (b := .append) (xs := #[.tmp 39, .tmp 44]) rfl ?_); at_builtin; refine Kd.R_append (Kd.int .u8) (w0 := w) w.heap.size rfl (.tmp 39) (.tmp 44) 69 5 (.int .u8 0) 1 rfl Tryd.underlying69 info5 rfl (by decide) (by omega) v373 y372 ((((rd_T77 l0 x10_1).f2) / 256) % 256) [.int .u8 ((((rd_T77 l0 x10_1).f2) / 256) % 256)] (fun _ => True) (fun _ => False) rfl rfl ?aP (fun _ hk => hk.elim) ?aF ?aO ?aB ?aS ?aL ?_; (case aP => exact rfl); (case aB => exact B_); (case aF => exact (fun _ _ => trivial)); (case aO => exact (Q_ HO374.out)); (case aS => exact (below_size B_)); (case aL => have := LMc21.out; omega); intro v376 w33 ho hb hg hat; rw [← Ny375.out] at ho; have BK370 := Aside0.mk (blk_grown (g := gb370) (o := .cells #[.int .i64 ((rd_T77 l0 x10_1).f0), .int .i64 ((rd_T77 l0 x10_1).f1), .int .i64 ((rd_T77 l0 x10_1).f2), .int .i64 ((rd_T77 l0 x10_1).f3)] 77 (0, 0)) M_ hg (Kd.R_ne HO374.out BK370.out (by decide))); have HO377 := Aside0.mk (ho); have HB := Aside0.mk (hb); clear HO374; clear ho hb hg hat)))
              go_roundg kj8
              case measure => have := HK1.out; have := HJ8.out; omega
              case rel => exact ⟨(y375), (wrap64 (x10_1 + 1)), R_, H', ⟨by have := HK1.out; have := HJ8.out; omega⟩, ⟨by (with_reducible repeat (first | apply Kd.R_alloc | apply Kd.R_drewN | apply Kd.R_drew)); exact HO377.out⟩, ⟨B_⟩⟩
            ·
             rw [if_neg c21] at H
             exact absurd H (by simp)
           ·
            rw [if_neg c20] at H
            have c20b0 : (t371 == 3) = false := beq_eq_false_iff_ne.mpr c20
            have c20b1 : (t371 != 3) = true := bne_iff_ne.mpr c20
            by_cases c34 : t371 > 1
            ·
             rw [if_pos c34] at H
             have c34b0 : decide (1 < t371) = true := decide_eq_true c34
             clear c34
             by_cases c35 : y372.length < 140737488355328
             ·
              rw [if_pos c35] at H
              have LMc35 := Aside0.mk c35
              clear c35
              obtain ⟨y381, hy381⟩ : ∃ y_ : List Int, y_ = (y372 ++ [(((rd_T77 l0 x10_1).f2)) % 256]) := ⟨_, rfl⟩
              replace H : (instr_Encode.l0 kj8 y381 l0 (l0.length : Int) (wrap64 (x10_1 + 1))) = some (r1, r2) := by first | (rw [hy381]; with_reducible exact H) | (have H2_ := (Option.bind_some _ _).symm.trans H; rw [hy381]; with_reducible exact H2_) | (have H2_ := (Option.bind_some _ _).symm.trans H; with_reducible exact H2_) | with_reducible exact H | (rw [hy381]; exact H) | exact H
              have Ny381 := Aside0.mk hy381
              clear hy381
              have H' := Aside0.mk H
              clear H
              obtain ⟨hcz36_0, hcz36_1, hcz36_2, hcz36_3, hfz36_0, hfz36_1, hfz36_2, hfz36_3⟩ := c4_ BK370.out
              go_wp2_with (first | ((with_reducible refine gate_builtin (b := .append) (xs := #[.tmp 31, .tmp 35]) rfl ?_); at_builtin; refine Kd.R_append (Kd.int .u8) (w0 := w) w.heap.size rfl (.tmp 31) (.tmp 35) 69 5 (.int .u8 0) 1 rfl Tryd.underlying69 info5 rfl (by decide) (by omega) u4 x4_1 ((((rd_T77 l0 x10_1).f1)) % 256) [.int .u8 ((((rd_T77 l0 x10_1).f1)) % 256)] (fun _ => True) (fun _ => False) rfl rfl ?aP (fun _ hk => hk.elim) ?aF ?aO ?aB ?aS ?aL ?_; (case aP => exact rfl); (case aB => exact B_); (case aF => exact (fun _ _ => trivial)); (case aO => exact (Q_ HO_4.out)); (case aS => exact (below_size B_)); (case aL => have := LMc19.out; omega); intro v373 w37 ho hb hg hat; rw [← Ny372.out] at ho; have BK370 := Aside0.mk (blk_grown (g := gb370) (o := .cells #[.int .i64 ((rd_T77 l0 x10_1).f0), .int .i64 ((rd_T77 l0 x10_1).f1), .int .i64 ((rd_T77 l0 x10_1).f2), .int .i64 ((rd_T77 l0 x10_1).f3)] 77 (0, 0)) M_ hg (Kd.R_ne HO_4.out BK370.out (by decide))); have HO374 := Aside0.mk (ho); have HB := Aside0.mk (hb); clear HO_4; clear ho hb hg hat; obtain ⟨hcz38_0, hcz38_1, hcz38_2, hcz38_3, hfz38_0, hfz38_1, hfz38_2, hfz38_3⟩ := c4_ BK370.out) | ((with_reducible refine gate_builtin (b := .append) (xs := #[.tmp 48, .tmp 52]) rfl ?_); at_builtin; refine Kd.R_append (Kd.int .u8) (w0 := w) w.heap.size rfl (.tmp 48) (.tmp 52) 69 5 (.int .u8 0) 1 rfl Tryd.underlying69 info5 rfl (by decide) (by omega) v373 y372 ((((rd_T77 l0 x10_1).f2)) % 256) [.int .u8 ((((rd_T77 l0 x10_1).f2)) % 256)] (fun _ => True) (fun _ => False) rfl rfl ?aP (fun _ hk => hk.elim) ?aF ?aO ?aB ?aS ?aL ?_; (case aP => exact rfl); (case aB => exact B_); (case aF => exact (fun _ _ => trivial)); (case aO => exact (Q_ HO374.out)); (case aS => exact (below_size B_)); (case aL => have := LMc35.out; omega); intro v382 w39 ho hb hg hat; rw [← Ny381.out] at ho; have BK370 := Aside0.mk (blk_grown (g := gb370) (o := .cells #[.int .i64 ((rd_T77 l0 x10_1).f0), .int .i64 ((rd_T77 l0 x10_1).f1), .int .i64 ((rd_T77 l0 x10_1).f2), .int .i64 ((rd_T77 l0 x10_1).f3)] 77 (0, 0)) M_ hg (Kd.R_ne HO374.out BK370.out (by decide))); have HO383 := Aside0.mk (ho); have HB := Aside0.mk (hb); clear HO374; clear ho hb hg hat))
              repeat (go_quiet (first | ((with_reducible refine gate_builtin (b := .append) (xs := #[.tmp 31, .tmp 35]) rfl ?_); at_builtin; refine Kd.R_append (Kd.int .u8) (w0 := w) w.heap.size rfl (.tmp 31) (.tmp 35) 69 5 (.int .u8 0) 1 rfl Tryd.underlying69 info5 rfl (by decide) (by omega) u4 x4_1 ((((rd_T77 l0 x10_1).f1)) % 256) [.int .u8 ((((rd_T77 l0 x10_1).f1)) % 256)] (fun _ => True) (fun _ => False) rfl rfl ?aP (fun _ hk => hk.elim) ?aF ?aO ?aB ?aS ?aL ?_; (case aP => exact rfl); (case aB => exact B_); (case aF => exact (fun _ _ => trivial)); (case aO => exact (Q_ HO_4.out)); (case aS => exact (below_size B_)); (case aL => have := LMc19.out; omega); intro v373 w37 ho hb hg hat; rw [← Ny372.out] at ho; have BK370 := Aside0.mk (blk_grown (g := gb370) (o := .cells #[.int .i64 ((rd_T77 l0 x10_1).f0), .int .i64 ((rd_T77 l0 x10_1).f1), .int .i64 ((rd_T77 l0 x10_1).f2), .int .i64 ((rd_T77 l0 x10_1).f3)] 77 (0, 0)) M_ hg (Kd.R_ne HO_4.out BK370.out (by decide))); have HO374 := Aside0.mk (ho); have HB := Aside0.mk (hb); clear HO_4; clear ho hb hg hat; obtain ⟨hcz38_0, hcz38_1, hcz38_2, hcz38_3, hfz38_0, hfz38_1, hfz38_2, hfz38_3⟩ := c4_ BK370.out) | ((with_reducible refine gate_builtin (b := .append) (xs := #[.tmp 48, .tmp 52]) rfl ?_); at_builtin; refine Kd.R_append (Kd.int .u8) (w0 := w) w.heap.size rfl (.tmp 48) (.tmp 52) 69 5 (.int .u8 0) 1 rfl Tryd.underlying69 info5 rfl (by decide) (by omega) v373 y372 ((((rd_T77 l0 x10_1).f2)) % 256) [.int .u8 ((((rd_T77 l0 x10_1).f2)) % 256)] (fun _ => True) (fun _ => False) rfl rfl ?aP (fun _ hk => hk.elim) ?aF ?aO ?aB ?aS ?aL ?_; (case aP => exact rfl); (case aB => exact B_); (case aF => exact (fun _ _ => trivial)); (case aO => exact (Q_ HO374.out)); (case aS => exact (below_size B_)); (case aL => have := LMc35.out; omega); intro v382 w39 ho hb hg hat; rw [← Ny381.out] at ho; have BK370 := Aside0.mk (blk_grown (g := gb370) (o := .cells #[.int .i64 ((rd_T77 l0 x10_1).f0), .int .i64 ((rd_T77 l0 x10_1).f1), .int .i64 ((rd_T77 l0 x10_1).f2), .int .i64 ((rd_T77 l0 x10_1).f3)] 77 (0, 0)) M_ hg (Kd.R_ne HO374.out BK370.out (by decide))); have HO383 := Aside0.mk (ho); have HB := Aside0.mk (hb); clear HO374; clear ho hb hg hat)); try go_wp2_with (first | ((with_reducible refine gate_builtin (b := .append) (xs := #[.tmp 31, .tmp 35]) rfl ?_); at_builtin; refine Kd.R_append (Kd.int .u8) (w0 := w) w.heap.size rfl (.tmp 31) (.tmp 35) 69 5 (.int .u8 0) 1 rfl Tryd.underlying69 info5 rfl (by decide) (by omega) u4 x4_1 ((((rd_T77 l0 x10_1).f1)) % 256) [.int .u8 ((((rd_T77 l0 x10_1).f1)) % 256)] (fun _ => True) (fun _ => False) rfl rfl ?aP (fun _ hk => hk.elim) ?aF ?aO ?aB ?aS ?aL ?_; (case aP => exact rfl); (case aB => exact B_); (case aF => exact (fun _ _ => trivial)); (case aO => exact (Q_ HO_4.out)); (case aS => exact (below_size B_)); (case aL => have := LMc19.out; omega); intro v373 w37 ho hb hg hat; rw [← Ny372.out] at ho; have BK370 := Aside0.mk (blk_grown (g := gb370) (o := .cells #[.int .i64 ((rd_T77 l0 x10_1).f0), .int .i64 ((rd_T77 l0 x10_1).f1), .int .i64 ((rd_T77 l0 x10_1).f2), .int .i64 ((rd_T77 l0 x10_1).f3)] 77 (0, 0)) M_ hg (Kd.R_ne HO_4.out BK370.out (by decide))); have HO374 := Aside0.mk (ho); have HB := Aside0.mk (hb); clear HO_4; clear ho hb hg hat; obtain ⟨hcz38_0, hcz38_1, hcz38_2, hcz38_3, hfz38_0, hfz38_1, hfz38_2, hfz38_3⟩ := c4_ BK370.out) | ((with_reducible refine gate_builtin (b := .append) (xs := #[.tmp 48, .tmp 52]) rfl ?_); at_builtin; refine Kd.R_append (Kd.int .u8) (w0 := w) w.heap.size rfl (.tmp 48) (.tmp 52) 69 5 (.int .u8 0) 1 rfl Tryd.underlying69 info5 rfl (by decide) (by omega) v373 y372 ((((rd_T77 l0 x10_1).f2)) % 256) [.int .u8 ((((rd_T77 l0 x10_1).f2)) % 256)] (fun _ => True) (fun _ => False) rfl rfl ?aP (fun _ hk => hk.elim) ?aF ?aO ?aB ?aS ?aL ?_; (case aP => exact rfl); (case aB => exact B_); (case aF => exact (fun _ _ => trivial)); (case aO => exact (Q_ HO374.out)); (case aS => exact (below_size B_)); (case aL => have := LMc35.out; omega); intro v382 w39 ho hb hg hat; rw [← Ny381.out] at ho; have BK370 := Aside0.mk (blk_grown (g := gb370) (o := .cells #[.int .i64 ((rd_T77 l0 x10_1).f0), .int .i64 ((rd_T77 l0 x10_1).f1), .int .i64 ((rd_T77 l0 x10_1).f2), .int .i64 ((rd_T77 l0 x10_1).f3)] 77 (0, 0)) M_ hg (Kd.R_ne HO374.out BK370.out (by decide))); have HO383 := Aside0.mk (ho); have HB := Aside0.mk (hb); clear HO374; clear ho hb hg hat)))
              go_roundg kj8
              case measure => have := HK1.out; have := HJ8.out; omega
              case rel => exact ⟨(y381), (wrap64 (x10_1 + 1)), R_, H', ⟨by have := HK1.out; have := HJ8.out; omega⟩, ⟨by (with_reducible repeat (first | apply Kd.R_alloc | apply Kd.R_drewN | apply Kd.R_drew)); exact HO383.out⟩, ⟨B_⟩⟩
             ·
              rw [if_neg c35] at H
              exact absurd H (by simp)
            ·
             rw [if_neg c34] at H
             have c34b0 : decide (1 < t371) = false := decide_eq_false c34
             clear c34
             have H' := Aside0.mk H
             clear H
             obtain ⟨hcz40_0, hcz40_1, hcz40_2, hcz40_3, hfz40_0, hfz40_1, hfz40_2, hfz40_3⟩ := c4_ BK370.out
             go_wp2_with (first | ((with_reducible refine gate_builtin (b := .append) (xs := #[.tmp 31, .tmp 35]) rfl ?_); at_builtin; refine Kd.R_append (Kd.int .u8) (w0 := w) w.heap.size rfl (.tmp 31) (.tmp 35) 69 5 (.int .u8 0) 1 rfl Tryd.underlying69 info5 rfl (by decide) (by omega) u4 x4_1 ((((rd_T77 l0 x10_1).f1)) % 256) [.int .u8 ((((rd_T77 l0 x10_1).f1)) % 256)] (fun _ => True) (fun _ => False) rfl rfl ?aP (fun _ hk => hk.elim) ?aF ?aO ?aB ?aS ?aL ?_; (case aP => exact rfl); (case aB => exact B_); (case aF => exact (fun _ _ => trivial)); (case aO => exact (Q_ HO_4.out)); (case aS => exact (below_size B_)); (case aL => have := LMc19.out; omega); intro v373 w41 ho hb hg hat; rw [← Ny372.out] at ho; have BK370 := Aside0.mk (blk_grown (g := gb370) (o := .cells #[.int .i64 ((rd_T77 l0 x10_1).f0), .int .i64 ((rd_T77 l0 x10_1).f1), .int .i64 ((rd_T77 l0 x10_1).f2), .int .i64 ((rd_T77 l0 x10_1).f3)] 77 (0, 0)) M_ hg (Kd.R_ne HO_4.out BK370.out (by decide))); have HO374 := Aside0.mk (ho); have HB := Aside0.mk (hb); clear HO_4; clear ho hb hg hat))
             repeat (go_quiet (first | ((with_reducible refine gate_builtin (b := .append) (xs := #[.tmp 31, .tmp 35]) rfl ?_); at_builtin; refine Kd.R_append (Kd.int .u8) (w0 := w) w.heap.size rfl (.tmp 31) (.tmp 35) 69 5 (.int .u8 0) 1 rfl Tryd.underlying69 info5 rfl (by decide) (by omega) u4 x4_1 ((((rd_T77 l0 x10_1).f1)) % 256) [.int .u8 ((((rd_T77 l0 x10_1).f1)) % 256)] (fun _ => True) (fun _ => False) rfl rfl ?aP (fun _ hk => hk.elim) ?aF ?aO ?aB ?aS ?aL ?_; (case aP => exact rfl); (case aB => exact B_); (case aF => exact (fun _ _ => trivial)); (case aO => exact (Q_ HO_4.out)); (case aS => exact (below_size B_)); (case aL => have := LMc19.out; omega); intro v373 w41 ho hb hg hat; rw [← Ny372.out] at ho; have BK370 := Aside0.mk (blk_grown (g := gb370) (o := .cells #[.int .i64 ((rd_T77 l0 x10_1).f0), .int .i64 ((rd_T77 l0 x10_1).f1), .int .i64 ((rd_T77 l0 x10_1).f2), .int .i64 ((rd_T77 l0 x10_1).f3)] 77 (0, 0)) M_ hg (Kd.R_ne HO_4.out BK370.out (by decide))); have HO374 := Aside0.mk (ho); have HB := Aside0.mk (hb); clear HO_4; clear ho hb hg hat)); try go_wp2_with (first | ((with_reducible refine gate_builtin (b := .append) (xs := #[.tmp 31, .tmp 35]) rfl ?_); at_builtin; refine Kd.R_append (Kd.int .u8) (w0 := w) w.heap.size rfl (.tmp 31) (.tmp 35) 69 5 (.int .u8 0) 1 rfl Tryd.underlying69 info5 rfl (by decide) (by omega) u4 x4_1 ((((rd_T77 l0 x10_1).f1)) % 256) [.int .u8 ((((rd_T77 l0 x10_1).f1)) % 256)] (fun _ => True) (fun _ => False) rfl rfl ?aP (fun _ hk => hk.elim) ?aF ?aO ?aB ?aS ?aL ?_; (case aP => exact rfl); (case aB => exact B_); (case aF => exact (fun _ _ => trivial)); (case aO => exact (Q_ HO_4.out)); (case aS => exact (below_size B_)); (case aL => have := LMc19.out; omega); intro v373 w41 ho hb hg hat; rw [← Ny372.out] at ho; have BK370 := Aside0.mk (blk_grown (g := gb370) (o := .cells #[.int .i64 ((rd_T77 l0 x10_1).f0), .int .i64 ((rd_T77 l0 x10_1).f1), .int .i64 ((rd_T77 l0 x10_1).f2), .int .i64 ((rd_T77 l0 x10_1).f3)] 77 (0, 0)) M_ hg (Kd.R_ne HO_4.out BK370.out (by decide))); have HO374 := Aside0.mk (ho); have HB := Aside0.mk (hb); clear HO_4; clear ho hb hg hat)))
             go_roundg kj8
             case measure => have := HK1.out; have := HJ8.out; omega
             case rel => exact ⟨(y372), (wrap64 (x10_1 + 1)), R_, H', ⟨by have := HK1.out; have := HJ8.out; omega⟩, ⟨by (with_reducible repeat (first | apply Kd.R_alloc | apply Kd.R_drewN | apply Kd.R_drew)); exact HO374.out⟩, ⟨B_⟩⟩
          ·
           rw [if_neg c19] at H
           exact absurd H (by simp)
     ·
      rw [if_neg c4] at H
      exact absurd H (by simp)
    ·
     rw [if_neg c3] at H
     exact absurd H (by simp)
   ·
    rw [if_neg c2] at H
    have c2b0 : decide (x10_1 < (l0.length : Int)) = false := decide_eq_false c2
    clear c2
    simp only [Option.some.injEq, Prod.mk.injEq] at H
    obtain ⟨rfl, rfl⟩ := H
    go_wp2
    repeat (go_quiet (fail); try go_wp2)
    go_ret2
    exact ⟨_, E_, by (with_reducible repeat (first | apply Kd.R_alloc | apply Kd.R_drewN | apply Kd.R_drew)); exact HO_4.out, B_⟩
def instr_Name.f (a0 : Int) : Option (ByteArray) := (strings_Fields.f (⟨#[110, 111, 112, 32, 110, 117, 109, 98, 101, 114, 32, 110, 105, 108, 32, 108, 111, 97, 100, 32, 115, 116, 111, 114, 101, 32, 112, 111, 112, 32, 100, 117, 112, 32, 115, 119, 97, 112, 32, 97, 100, 100, 32, 115, 117, 98, 32, 109, 117, 108, 32, 100, 105, 118, 32, 114, 101, 109, 32, 110, 101, 103, 32, 97, 110, 100, 32, 111, 114, 32, 120, 111, 114, 32, 115, 104, 108, 32, 115, 104, 114, 32, 106, 117, 109, 112, 32, 122, 101, 114, 111, 32, 109, 105, 110, 117, 115, 32, 108, 101, 115, 115, 32, 105, 115, 110, 105, 108, 32, 115, 97, 109, 101, 32, 110, 101, 119, 32, 103, 101, 116, 32, 112, 117, 116, 32, 103, 101, 116, 115, 32, 112, 117, 116, 115, 32, 97, 114, 114, 97, 121, 32, 110, 117, 109, 103, 101, 116, 32, 110, 117, 109, 112, 117, 116, 32, 114, 101, 102, 103, 101, 116, 32, 114, 101, 102, 112, 117, 116, 32, 108, 101, 110, 103, 116, 104, 32, 99, 97, 115, 116, 32, 105, 115, 32, 99, 97, 108, 108, 32, 102, 97, 99, 101, 32, 115, 116, 97, 116, 105, 99, 32, 105, 110, 105, 116, 32, 114, 101, 116, 117, 114, 110, 32, 103, 105, 118, 101, 32, 116, 104, 114, 111, 119, 32, 112, 114, 105, 110, 116]⟩ : ByteArray)).bind fun t384 => (if a0 ≥ 0 then (if a0 < (t384.length : Int) then (if 0 ≤ a0 then (some (rdOf ByteArray.empty t384 a0)) else (none)) else (some (⟨#[]⟩ : ByteArray))) else (some (⟨#[]⟩ : ByteArray)))
set_option maxHeartbeats 8000000 in
set_option maxRecDepth 100000 in
theorem instr_Name.calls (a0 : Int) (r : ByteArray) (w : World) (hG : Glob w) (h : instr_Name.f a0 = some r) :
 Calls Tryd.prog 63 #[.int .i64 a0] w fun e w' => e = .returned (.string r) ∧ Below w.heap.size w w' := by
 have HB := Aside0.mk (Below.refl w.heap.size w)
 have H : ((strings_Fields.f (⟨#[110, 111, 112, 32, 110, 117, 109, 98, 101, 114, 32, 110, 105, 108, 32, 108, 111, 97, 100, 32, 115, 116, 111, 114, 101, 32, 112, 111, 112, 32, 100, 117, 112, 32, 115, 119, 97, 112, 32, 97, 100, 100, 32, 115, 117, 98, 32, 109, 117, 108, 32, 100, 105, 118, 32, 114, 101, 109, 32, 110, 101, 103, 32, 97, 110, 100, 32, 111, 114, 32, 120, 111, 114, 32, 115, 104, 108, 32, 115, 104, 114, 32, 106, 117, 109, 112, 32, 122, 101, 114, 111, 32, 109, 105, 110, 117, 115, 32, 108, 101, 115, 115, 32, 105, 115, 110, 105, 108, 32, 115, 97, 109, 101, 32, 110, 101, 119, 32, 103, 101, 116, 32, 112, 117, 116, 32, 103, 101, 116, 115, 32, 112, 117, 116, 115, 32, 97, 114, 114, 97, 121, 32, 110, 117, 109, 103, 101, 116, 32, 110, 117, 109, 112, 117, 116, 32, 114, 101, 102, 103, 101, 116, 32, 114, 101, 102, 112, 117, 116, 32, 108, 101, 110, 103, 116, 104, 32, 99, 97, 115, 116, 32, 105, 115, 32, 99, 97, 108, 108, 32, 102, 97, 99, 101, 32, 115, 116, 97, 116, 105, 99, 32, 105, 110, 105, 116, 32, 114, 101, 116, 117, 114, 110, 32, 103, 105, 118, 101, 32, 116, 104, 114, 111, 119, 32, 112, 114, 105, 110, 116]⟩ : ByteArray)).bind fun t384 => (if a0 ≥ 0 then (if a0 < (t384.length : Int) then (if 0 ≤ a0 then (some (rdOf ByteArray.empty t384 a0)) else (none)) else (some (⟨#[]⟩ : ByteArray))) else (some (⟨#[]⟩ : ByteArray)))) = some r := h
 clear h
 have HG := Aside0.mk hG
 clear hG
 replace H := Option.bind_eq_some_iff.mp H
 obtain ⟨t384, A20, H⟩ := H
 replace H : (if a0 ≥ 0 then (if a0 < (t384.length : Int) then (if 0 ≤ a0 then (some (rdOf ByteArray.empty t384 a0)) else (none)) else (some (⟨#[]⟩ : ByteArray))) else (some (⟨#[]⟩ : ByteArray))) = some r := H
 have A2 := Aside0.mk A20
 clear A20
 by_cases c3 : a0 ≥ 0
 ·
  rw [if_pos c3] at H
  have c3b0 : decide (0 ≤ a0) = true := decide_eq_true c3
  clear c3
  by_cases c4 : a0 < (t384.length : Int)
  ·
   rw [if_pos c4] at H
   have c4b0 : decide (a0 < (t384.length : Int)) = true := decide_eq_true c4
   clear c4
   by_cases c5 : 0 ≤ a0
   ·
    rw [if_pos c5] at H
    have c5b0 : decide (0 ≤ a0) = true := decide_eq_true c5
    clear c5
    obtain rfl := Option.some.inj H
    go_enter Tryd.func63, Tryd.ntmps63
    go_wp2_with (first | ((with_reducible refine gt_ 99 ?_); refine gc_ 4 Tryd.func99 #[.string (⟨#[110, 111, 112, 32, 110, 117, 109, 98, 101, 114, 32, 110, 105, 108, 32, 108, 111, 97, 100, 32, 115, 116, 111, 114, 101, 32, 112, 111, 112, 32, 100, 117, 112, 32, 115, 119, 97, 112, 32, 97, 100, 100, 32, 115, 117, 98, 32, 109, 117, 108, 32, 100, 105, 118, 32, 114, 101, 109, 32, 110, 101, 103, 32, 97, 110, 100, 32, 111, 114, 32, 120, 111, 114, 32, 115, 104, 108, 32, 115, 104, 114, 32, 106, 117, 109, 112, 32, 122, 101, 114, 111, 32, 109, 105, 110, 117, 115, 32, 108, 101, 115, 115, 32, 105, 115, 110, 105, 108, 32, 115, 97, 109, 101, 32, 110, 101, 119, 32, 103, 101, 116, 32, 112, 117, 116, 32, 103, 101, 116, 115, 32, 112, 117, 116, 115, 32, 97, 114, 114, 97, 121, 32, 110, 117, 109, 103, 101, 116, 32, 110, 117, 109, 112, 117, 116, 32, 114, 101, 102, 103, 101, 116, 32, 114, 101, 102, 112, 117, 116, 32, 108, 101, 110, 103, 116, 104, 32, 99, 97, 115, 116, 32, 105, 115, 32, 99, 97, 108, 108, 32, 102, 97, 99, 101, 32, 115, 116, 97, 116, 105, 99, 32, 105, 110, 105, 116, 32, 114, 101, 116, 117, 114, 110, 32, 103, 105, 118, 101, 32, 116, 104, 114, 111, 119, 32, 112, 114, 105, 110, 116]⟩ : ByteArray)] ?_; (with_reducible refine (strings_Fields.calls (⟨#[110, 111, 112, 32, 110, 117, 109, 98, 101, 114, 32, 110, 105, 108, 32, 108, 111, 97, 100, 32, 115, 116, 111, 114, 101, 32, 112, 111, 112, 32, 100, 117, 112, 32, 115, 119, 97, 112, 32, 97, 100, 100, 32, 115, 117, 98, 32, 109, 117, 108, 32, 100, 105, 118, 32, 114, 101, 109, 32, 110, 101, 103, 32, 97, 110, 100, 32, 111, 114, 32, 120, 111, 114, 32, 115, 104, 108, 32, 115, 104, 114, 32, 106, 117, 109, 112, 32, 122, 101, 114, 111, 32, 109, 105, 110, 117, 115, 32, 108, 101, 115, 115, 32, 105, 115, 110, 105, 108, 32, 115, 97, 109, 101, 32, 110, 101, 119, 32, 103, 101, 116, 32, 112, 117, 116, 32, 103, 101, 116, 115, 32, 112, 117, 116, 115, 32, 97, 114, 114, 97, 121, 32, 110, 117, 109, 103, 101, 116, 32, 110, 117, 109, 112, 117, 116, 32, 114, 101, 102, 103, 101, 116, 32, 114, 101, 102, 112, 117, 116, 32, 108, 101, 110, 103, 116, 104, 32, 99, 97, 115, 116, 32, 105, 115, 32, 99, 97, 108, 108, 32, 102, 97, 99, 101, 32, 115, 116, 97, 116, 105, 99, 32, 105, 110, 105, 116, 32, 114, 101, 116, 117, 114, 110, 32, 103, 105, 118, 101, 32, 116, 104, 114, 111, 119, 32, 112, 114, 105, 110, 116]⟩ : ByteArray) t384 _ ?side1 A2.out).mono ?_); (case side1 => exact HG.out.below B_); rintro e w6 ⟨v385, rfl, ho0, hb⟩; refine ⟨_, rfl, ?_⟩; have HO386 := Aside0.mk (Kd.R_lower ho0 (below_size B_)); have HB := bs_ hb; (try clear hb); (try clear hb2); (try clear hk); (try clear hi); (try clear ho0); obtain ⟨Ao7, co7, eo7⟩ := Kd.R_slice HO386.out; subst eo7; have p387 : 0 ≤ (a0 : Int) := of_decide_eq_true A_; have q387 : a0 < (t384.length : Int) := of_decide_eq_true A_; obtain ⟨ad387, e387, hx387_0⟩ := Kd.at_string (Kd.R_reads' HO386.out).2.2 a0 p387 q387; cases e387; replace p387 := eq_true p387; replace q387 := eq_true q387))
    go_ret
    exact ⟨E_, B_⟩
   ·
    rw [if_neg c5] at H
    exact absurd H (by simp)
  ·
   rw [if_neg c4] at H
   have c4b0 : decide (a0 < (t384.length : Int)) = false := decide_eq_false c4
   clear c4
   obtain rfl := Option.some.inj H
   go_enter Tryd.func63, Tryd.ntmps63
   go_wp2_with (first | ((with_reducible refine gt_ 99 ?_); refine gc_ 4 Tryd.func99 #[.string (⟨#[110, 111, 112, 32, 110, 117, 109, 98, 101, 114, 32, 110, 105, 108, 32, 108, 111, 97, 100, 32, 115, 116, 111, 114, 101, 32, 112, 111, 112, 32, 100, 117, 112, 32, 115, 119, 97, 112, 32, 97, 100, 100, 32, 115, 117, 98, 32, 109, 117, 108, 32, 100, 105, 118, 32, 114, 101, 109, 32, 110, 101, 103, 32, 97, 110, 100, 32, 111, 114, 32, 120, 111, 114, 32, 115, 104, 108, 32, 115, 104, 114, 32, 106, 117, 109, 112, 32, 122, 101, 114, 111, 32, 109, 105, 110, 117, 115, 32, 108, 101, 115, 115, 32, 105, 115, 110, 105, 108, 32, 115, 97, 109, 101, 32, 110, 101, 119, 32, 103, 101, 116, 32, 112, 117, 116, 32, 103, 101, 116, 115, 32, 112, 117, 116, 115, 32, 97, 114, 114, 97, 121, 32, 110, 117, 109, 103, 101, 116, 32, 110, 117, 109, 112, 117, 116, 32, 114, 101, 102, 103, 101, 116, 32, 114, 101, 102, 112, 117, 116, 32, 108, 101, 110, 103, 116, 104, 32, 99, 97, 115, 116, 32, 105, 115, 32, 99, 97, 108, 108, 32, 102, 97, 99, 101, 32, 115, 116, 97, 116, 105, 99, 32, 105, 110, 105, 116, 32, 114, 101, 116, 117, 114, 110, 32, 103, 105, 118, 101, 32, 116, 104, 114, 111, 119, 32, 112, 114, 105, 110, 116]⟩ : ByteArray)] ?_; (with_reducible refine (strings_Fields.calls (⟨#[110, 111, 112, 32, 110, 117, 109, 98, 101, 114, 32, 110, 105, 108, 32, 108, 111, 97, 100, 32, 115, 116, 111, 114, 101, 32, 112, 111, 112, 32, 100, 117, 112, 32, 115, 119, 97, 112, 32, 97, 100, 100, 32, 115, 117, 98, 32, 109, 117, 108, 32, 100, 105, 118, 32, 114, 101, 109, 32, 110, 101, 103, 32, 97, 110, 100, 32, 111, 114, 32, 120, 111, 114, 32, 115, 104, 108, 32, 115, 104, 114, 32, 106, 117, 109, 112, 32, 122, 101, 114, 111, 32, 109, 105, 110, 117, 115, 32, 108, 101, 115, 115, 32, 105, 115, 110, 105, 108, 32, 115, 97, 109, 101, 32, 110, 101, 119, 32, 103, 101, 116, 32, 112, 117, 116, 32, 103, 101, 116, 115, 32, 112, 117, 116, 115, 32, 97, 114, 114, 97, 121, 32, 110, 117, 109, 103, 101, 116, 32, 110, 117, 109, 112, 117, 116, 32, 114, 101, 102, 103, 101, 116, 32, 114, 101, 102, 112, 117, 116, 32, 108, 101, 110, 103, 116, 104, 32, 99, 97, 115, 116, 32, 105, 115, 32, 99, 97, 108, 108, 32, 102, 97, 99, 101, 32, 115, 116, 97, 116, 105, 99, 32, 105, 110, 105, 116, 32, 114, 101, 116, 117, 114, 110, 32, 103, 105, 118, 101, 32, 116, 104, 114, 111, 119, 32, 112, 114, 105, 110, 116]⟩ : ByteArray) t384 _ ?side1 A2.out).mono ?_); (case side1 => exact HG.out.below B_); rintro e w8 ⟨v385, rfl, ho0, hb⟩; refine ⟨_, rfl, ?_⟩; have HO386 := Aside0.mk (Kd.R_lower ho0 (below_size B_)); have HB := bs_ hb; (try clear hb); (try clear hb2); (try clear hk); (try clear hi); (try clear ho0); obtain ⟨Ao9, co9, eo9⟩ := Kd.R_slice HO386.out; subst eo9))
   go_ret
   exact ⟨E_, B_⟩
 ·
  rw [if_neg c3] at H
  have c3b0 : decide (0 ≤ a0) = false := decide_eq_false c3
  clear c3
  obtain rfl := Option.some.inj H
  go_enter Tryd.func63, Tryd.ntmps63
  go_wp2_with (first | ((with_reducible refine gt_ 99 ?_); refine gc_ 4 Tryd.func99 #[.string (⟨#[110, 111, 112, 32, 110, 117, 109, 98, 101, 114, 32, 110, 105, 108, 32, 108, 111, 97, 100, 32, 115, 116, 111, 114, 101, 32, 112, 111, 112, 32, 100, 117, 112, 32, 115, 119, 97, 112, 32, 97, 100, 100, 32, 115, 117, 98, 32, 109, 117, 108, 32, 100, 105, 118, 32, 114, 101, 109, 32, 110, 101, 103, 32, 97, 110, 100, 32, 111, 114, 32, 120, 111, 114, 32, 115, 104, 108, 32, 115, 104, 114, 32, 106, 117, 109, 112, 32, 122, 101, 114, 111, 32, 109, 105, 110, 117, 115, 32, 108, 101, 115, 115, 32, 105, 115, 110, 105, 108, 32, 115, 97, 109, 101, 32, 110, 101, 119, 32, 103, 101, 116, 32, 112, 117, 116, 32, 103, 101, 116, 115, 32, 112, 117, 116, 115, 32, 97, 114, 114, 97, 121, 32, 110, 117, 109, 103, 101, 116, 32, 110, 117, 109, 112, 117, 116, 32, 114, 101, 102, 103, 101, 116, 32, 114, 101, 102, 112, 117, 116, 32, 108, 101, 110, 103, 116, 104, 32, 99, 97, 115, 116, 32, 105, 115, 32, 99, 97, 108, 108, 32, 102, 97, 99, 101, 32, 115, 116, 97, 116, 105, 99, 32, 105, 110, 105, 116, 32, 114, 101, 116, 117, 114, 110, 32, 103, 105, 118, 101, 32, 116, 104, 114, 111, 119, 32, 112, 114, 105, 110, 116]⟩ : ByteArray)] ?_; (with_reducible refine (strings_Fields.calls (⟨#[110, 111, 112, 32, 110, 117, 109, 98, 101, 114, 32, 110, 105, 108, 32, 108, 111, 97, 100, 32, 115, 116, 111, 114, 101, 32, 112, 111, 112, 32, 100, 117, 112, 32, 115, 119, 97, 112, 32, 97, 100, 100, 32, 115, 117, 98, 32, 109, 117, 108, 32, 100, 105, 118, 32, 114, 101, 109, 32, 110, 101, 103, 32, 97, 110, 100, 32, 111, 114, 32, 120, 111, 114, 32, 115, 104, 108, 32, 115, 104, 114, 32, 106, 117, 109, 112, 32, 122, 101, 114, 111, 32, 109, 105, 110, 117, 115, 32, 108, 101, 115, 115, 32, 105, 115, 110, 105, 108, 32, 115, 97, 109, 101, 32, 110, 101, 119, 32, 103, 101, 116, 32, 112, 117, 116, 32, 103, 101, 116, 115, 32, 112, 117, 116, 115, 32, 97, 114, 114, 97, 121, 32, 110, 117, 109, 103, 101, 116, 32, 110, 117, 109, 112, 117, 116, 32, 114, 101, 102, 103, 101, 116, 32, 114, 101, 102, 112, 117, 116, 32, 108, 101, 110, 103, 116, 104, 32, 99, 97, 115, 116, 32, 105, 115, 32, 99, 97, 108, 108, 32, 102, 97, 99, 101, 32, 115, 116, 97, 116, 105, 99, 32, 105, 110, 105, 116, 32, 114, 101, 116, 117, 114, 110, 32, 103, 105, 118, 101, 32, 116, 104, 114, 111, 119, 32, 112, 114, 105, 110, 116]⟩ : ByteArray) t384 _ ?side1 A2.out).mono ?_); (case side1 => exact HG.out.below B_); rintro e w10 ⟨v385, rfl, ho0, hb⟩; refine ⟨_, rfl, ?_⟩; have HO386 := Aside0.mk (Kd.R_lower ho0 (below_size B_)); have HB := bs_ hb; (try clear hb); (try clear hb2); (try clear hk); (try clear hi); (try clear ho0)))
  go_ret
  exact ⟨E_, B_⟩
def keystonelaw4_known.f (k : Nat)  : Option (Bool) := (instr_Encode.f k (([(⟨0, 1, 258, 0⟩ : S77), (⟨0, 43, 0, 0⟩ : S77)] : List (S77)))).bind fun bt391 => (if bt391.2 = 0 then (if (strOfNums bt391.1).toList = ([1, 1, 2, 43] : List UInt8) then ((instr_Size.f k 3).bind fun t395 => (if t395 = 2 then ((instr_Name.f 44).bind fun t396 => (some (t396.toList == ([116, 104, 114, 111, 119] : List UInt8)))) else (some false))) else (some false)) else (some false))
theorem keystonelaw4_known.mono : ∀ k, LeO (keystonelaw4_known.f k ) (keystonelaw4_known.f (k + 1) ) := by
 intro  k
 unfold keystonelaw4_known.f
 repeat' first
  | (with_reducible exact instr_Encode.mono _ _)
  | (with_reducible exact instr_Size.mono _ _)
  | (with_reducible exact LeO.refl _)
  | (with_reducible exact LeO.none _)
  | (with_reducible refine LeO.ite ?_ ?_)
  | (with_reducible refine LeO.bind ?_ (fun _ => ?_))
  | exact instr_Encode.mono _ _
  | exact instr_Size.mono _ _
  | exact LeO.none _
  | refine LeO.ite ?_ ?_
  | refine LeO.bind ?_ (fun _ => ?_)
set_option maxHeartbeats 8000000 in
set_option maxRecDepth 100000 in
theorem keystonelaw4_known.calls (k : Nat)  (r : Bool) (w : World) (hG : Glob w) (h : keystonelaw4_known.f k  = some r) :
 Calls Tryd.prog 32 #[] w fun e w' => e = .returned (.bool r) ∧ Below w.heap.size w w' := by
 have hu77 := Tryd.underlying77
 have HB := Aside0.mk (Below.refl w.heap.size w)
 have H : ((instr_Encode.f k (([(⟨0, 1, 258, 0⟩ : S77), (⟨0, 43, 0, 0⟩ : S77)] : List (S77)))).bind fun bt391 => (if bt391.2 = 0 then (if (strOfNums bt391.1).toList = ([1, 1, 2, 43] : List UInt8) then ((instr_Size.f k 3).bind fun t395 => (if t395 = 2 then ((instr_Name.f 44).bind fun t396 => (some (t396.toList == ([116, 104, 114, 111, 119] : List UInt8)))) else (some false))) else (some false)) else (some false))) = some r := h
 clear h
 have HG := Aside0.mk hG
 clear hG
 obtain ⟨y388, hy388⟩ : ∃ y_ : List (S77), y_ = (([(⟨0, 1, 258, 0⟩ : S77), (⟨0, 43, 0, 0⟩ : S77)] : List (S77))) := ⟨_, rfl⟩
 replace H : ((instr_Encode.f k y388).bind fun bt391 => (if bt391.2 = 0 then (if (strOfNums bt391.1).toList = ([1, 1, 2, 43] : List UInt8) then ((instr_Size.f k 3).bind fun t395 => (if t395 = 2 then ((instr_Name.f 44).bind fun t396 => (some (t396.toList == ([116, 104, 114, 111, 119] : List UInt8)))) else (some false))) else (some false)) else (some false))) = some r := by first | (rw [hy388]; with_reducible exact H) | (have H2_ := (Option.bind_some _ _).symm.trans H; rw [hy388]; with_reducible exact H2_) | (have H2_ := (Option.bind_some _ _).symm.trans H; with_reducible exact H2_) | with_reducible exact H | (rw [hy388]; exact H) | exact H
 have Ny388 := Aside0.mk hy388
 clear hy388
 replace H := Option.bind_eq_some_iff.mp H
 obtain ⟨⟨t391, t392⟩, A10, H⟩ := H
 replace H : (if t392 = 0 then (if (strOfNums t391).toList = ([1, 1, 2, 43] : List UInt8) then ((instr_Size.f k 3).bind fun t395 => (if t395 = 2 then ((instr_Name.f 44).bind fun t396 => (some (t396.toList == ([116, 104, 114, 111, 119] : List UInt8)))) else (some false))) else (some false)) else (some false)) = some r := H
 have A1 := Aside0.mk A10
 clear A10
 by_cases c2 : t392 = 0
 ·
  rw [if_pos c2] at H
  have c2b0 : (t392 == 0) = true := beq_iff_eq.mpr c2
  have c2b1 : (t392 != 0) = false := bne_eq_false_iff_eq.mpr c2
  clear c2
  by_cases c3 : (strOfNums t391).toList = ([1, 1, 2, 43] : List UInt8)
  ·
   rw [if_pos c3] at H
   have c3b0 : ((strOfNums t391).toList == ([1, 1, 2, 43] : List UInt8)) = true := beq_iff_eq.mpr c3
   have c3b1 : ((strOfNums t391).toList != ([1, 1, 2, 43] : List UInt8)) = false := bne_eq_false_iff_eq.mpr c3
   clear c3
   replace H := Option.bind_eq_some_iff.mp H
   obtain ⟨t395, A40, H⟩ := H
   replace H : (if t395 = 2 then ((instr_Name.f 44).bind fun t396 => (some (t396.toList == ([116, 104, 114, 111, 119] : List UInt8)))) else (some false)) = some r := H
   have A4 := Aside0.mk A40
   clear A40
   by_cases c5 : t395 = 2
   ·
    rw [if_pos c5] at H
    have c5b0 : (t395 == 2) = true := beq_iff_eq.mpr c5
    have c5b1 : (t395 != 2) = false := bne_eq_false_iff_eq.mpr c5
    clear c5
    replace H := Option.bind_eq_some_iff.mp H
    obtain ⟨t396, A60, H⟩ := H
    replace H : (some (t396.toList == ([116, 104, 114, 111, 119] : List UInt8))) = some r := H
    have A6 := Aside0.mk A60
    clear A60
    obtain rfl := Option.some.inj H
    go_enter Tryd.func32, Tryd.ntmps32
    go_wp2_with (first | ((with_reducible refine d_ 6 ?_); refine Kd.R_lit k77 _ 77 ?hg (N := 6) ?hd (xs := ([(⟨0, 1, 258, 0⟩ : S77), (⟨0, 43, 0, 0⟩ : S77)] : List (S77))) (inner := [.int .i64 0, .int .i64 1, .int .i64 258, .int .i64 0, .int .i64 0, .int .i64 43, .int .i64 0, .int .i64 0]) (ok := fun _ => True) (okp := fun _ => True) ?hr ?hp (fun _ hk => hk) trivial (Below.refl _ _) (Nat.le_refl _) (by simp) ?_; (case hd => rfl); (case hg => rfl); (case hr => first | (go_simp; done) | (go_simp; rfl)); (case hp => exact (Reps.c4 (show Kd.M k77 _ _ _ (⟨0, 1, 258, 0⟩ : S77) [.int .i64 0, .int .i64 1, .int .i64 258, .int .i64 0] from (k77_mkM _ _ _ (⟨0, 1, 258, 0⟩ : S77) )) (Reps.c4 (show Kd.M k77 _ _ _ (⟨0, 43, 0, 0⟩ : S77) [.int .i64 0, .int .i64 43, .int .i64 0, .int .i64 0] from (k77_mkM _ _ _ (⟨0, 43, 0, 0⟩ : S77) )) (Reps.none _ _)))); intro v389 w7 ho8 hb hg_ hnew_; clear hg_ hnew_; (first | rw [← Ny388.out] at ho8 | (simp only [Int.reduceToNat] at ho8; rw [← Ny388.out] at ho8)); have HO390 := Aside0.mk (Kd.R_lower ho8 (below_size B_)); have HB := bs_ hb; clear hb ho8; obtain ⟨Ao9, co9, eo9⟩ := Kd.R_slice HO390.out; subst eo9) | ((with_reducible refine gt_ 61 ?_); refine gc_ 7 Tryd.func61 #[.slice Ao9 y388.length co9] ?_; (with_reducible refine (instr_Encode.calls k _ _ y388 t391 t392 _ ?side1 ?side2 A1.out).mono ?_); (case side1 => repeat (first | exact (Kd.R_reads' HO390.out).2.2 | (with_reducible refine Kd.C_alloc ?_ _) | (with_reducible refine Kd.C_drewN ?_ _) | (with_reducible refine Kd.C_drew ?_))); (case side2 => exact (Kd.R_reads' HO390.out).2.1); rintro e w10 ⟨v393, rfl, ho0, hb⟩; refine ⟨_, rfl, ?_⟩; have HO390 := rb_ HO390 hb; have HO394 := Aside0.mk (Kd.R_lower ho0 (below_size B_)); have HB := bs_ hb; (try clear hb); (try clear hb2); (try clear hk); (try clear hi); (try clear ho0); have hcv11 := own_string (P := Tryd.prog) Tryd.underlying69 Tryd.underlying5 Tryd.underlying9 (Kd.own_of_R HO394.out)) | (go_at_call 62; (with_reducible refine (instr_Size.calls k 3 t395 _ A4.out).mono ?_); rintro e w' ⟨rfl, ⟨nd, rfl⟩⟩) | (go_at_call 63; (with_reducible refine (instr_Name.calls 44 t396 _ ?side1 A6.out).mono ?_); (case side1 => exact HG.out.below B_); rintro e w12 ⟨rfl, hb⟩; have HO390 := rb_ HO390 hb; have HO394 := rb_ HO394 hb; have HB := bs_ hb; (try clear hb); (try clear hb2); (try clear hk); (try clear hi)))
    go_ret
    exact ⟨E_, B_⟩
   ·
    rw [if_neg c5] at H
    have c5b0 : (t395 == 2) = false := beq_eq_false_iff_ne.mpr c5
    have c5b1 : (t395 != 2) = true := bne_iff_ne.mpr c5
    obtain rfl := Option.some.inj H
    go_enter Tryd.func32, Tryd.ntmps32
    go_wp2_with (first | ((with_reducible refine d_ 6 ?_); refine Kd.R_lit k77 _ 77 ?hg (N := 6) ?hd (xs := ([(⟨0, 1, 258, 0⟩ : S77), (⟨0, 43, 0, 0⟩ : S77)] : List (S77))) (inner := [.int .i64 0, .int .i64 1, .int .i64 258, .int .i64 0, .int .i64 0, .int .i64 43, .int .i64 0, .int .i64 0]) (ok := fun _ => True) (okp := fun _ => True) ?hr ?hp (fun _ hk => hk) trivial (Below.refl _ _) (Nat.le_refl _) (by simp) ?_; (case hd => rfl); (case hg => rfl); (case hr => first | (go_simp; done) | (go_simp; rfl)); (case hp => exact (Reps.c4 (show Kd.M k77 _ _ _ (⟨0, 1, 258, 0⟩ : S77) [.int .i64 0, .int .i64 1, .int .i64 258, .int .i64 0] from (k77_mkM _ _ _ (⟨0, 1, 258, 0⟩ : S77) )) (Reps.c4 (show Kd.M k77 _ _ _ (⟨0, 43, 0, 0⟩ : S77) [.int .i64 0, .int .i64 43, .int .i64 0, .int .i64 0] from (k77_mkM _ _ _ (⟨0, 43, 0, 0⟩ : S77) )) (Reps.none _ _)))); intro v389 w13 ho14 hb hg_ hnew_; clear hg_ hnew_; (first | rw [← Ny388.out] at ho14 | (simp only [Int.reduceToNat] at ho14; rw [← Ny388.out] at ho14)); have HO390 := Aside0.mk (Kd.R_lower ho14 (below_size B_)); have HB := bs_ hb; clear hb ho14; obtain ⟨Ao15, co15, eo15⟩ := Kd.R_slice HO390.out; subst eo15) | ((with_reducible refine gt_ 61 ?_); refine gc_ 7 Tryd.func61 #[.slice Ao15 y388.length co15] ?_; (with_reducible refine (instr_Encode.calls k _ _ y388 t391 t392 _ ?side1 ?side2 A1.out).mono ?_); (case side1 => repeat (first | exact (Kd.R_reads' HO390.out).2.2 | (with_reducible refine Kd.C_alloc ?_ _) | (with_reducible refine Kd.C_drewN ?_ _) | (with_reducible refine Kd.C_drew ?_))); (case side2 => exact (Kd.R_reads' HO390.out).2.1); rintro e w16 ⟨v393, rfl, ho0, hb⟩; refine ⟨_, rfl, ?_⟩; have HO390 := rb_ HO390 hb; have HO394 := Aside0.mk (Kd.R_lower ho0 (below_size B_)); have HB := bs_ hb; (try clear hb); (try clear hb2); (try clear hk); (try clear hi); (try clear ho0); have hcv17 := own_string (P := Tryd.prog) Tryd.underlying69 Tryd.underlying5 Tryd.underlying9 (Kd.own_of_R HO394.out)) | (go_at_call 62; (with_reducible refine (instr_Size.calls k 3 t395 _ A4.out).mono ?_); rintro e w' ⟨rfl, ⟨nd, rfl⟩⟩))
    go_ret
    exact ⟨E_, B_⟩
  ·
   rw [if_neg c3] at H
   have c3b0 : ((strOfNums t391).toList == ([1, 1, 2, 43] : List UInt8)) = false := beq_eq_false_iff_ne.mpr c3
   have c3b1 : ((strOfNums t391).toList != ([1, 1, 2, 43] : List UInt8)) = true := bne_iff_ne.mpr c3
   obtain rfl := Option.some.inj H
   go_enter Tryd.func32, Tryd.ntmps32
   go_wp2_with (first | ((with_reducible refine d_ 6 ?_); refine Kd.R_lit k77 _ 77 ?hg (N := 6) ?hd (xs := ([(⟨0, 1, 258, 0⟩ : S77), (⟨0, 43, 0, 0⟩ : S77)] : List (S77))) (inner := [.int .i64 0, .int .i64 1, .int .i64 258, .int .i64 0, .int .i64 0, .int .i64 43, .int .i64 0, .int .i64 0]) (ok := fun _ => True) (okp := fun _ => True) ?hr ?hp (fun _ hk => hk) trivial (Below.refl _ _) (Nat.le_refl _) (by simp) ?_; (case hd => rfl); (case hg => rfl); (case hr => first | (go_simp; done) | (go_simp; rfl)); (case hp => exact (Reps.c4 (show Kd.M k77 _ _ _ (⟨0, 1, 258, 0⟩ : S77) [.int .i64 0, .int .i64 1, .int .i64 258, .int .i64 0] from (k77_mkM _ _ _ (⟨0, 1, 258, 0⟩ : S77) )) (Reps.c4 (show Kd.M k77 _ _ _ (⟨0, 43, 0, 0⟩ : S77) [.int .i64 0, .int .i64 43, .int .i64 0, .int .i64 0] from (k77_mkM _ _ _ (⟨0, 43, 0, 0⟩ : S77) )) (Reps.none _ _)))); intro v389 w18 ho19 hb hg_ hnew_; clear hg_ hnew_; (first | rw [← Ny388.out] at ho19 | (simp only [Int.reduceToNat] at ho19; rw [← Ny388.out] at ho19)); have HO390 := Aside0.mk (Kd.R_lower ho19 (below_size B_)); have HB := bs_ hb; clear hb ho19; obtain ⟨Ao20, co20, eo20⟩ := Kd.R_slice HO390.out; subst eo20) | ((with_reducible refine gt_ 61 ?_); refine gc_ 7 Tryd.func61 #[.slice Ao20 y388.length co20] ?_; (with_reducible refine (instr_Encode.calls k _ _ y388 t391 t392 _ ?side1 ?side2 A1.out).mono ?_); (case side1 => repeat (first | exact (Kd.R_reads' HO390.out).2.2 | (with_reducible refine Kd.C_alloc ?_ _) | (with_reducible refine Kd.C_drewN ?_ _) | (with_reducible refine Kd.C_drew ?_))); (case side2 => exact (Kd.R_reads' HO390.out).2.1); rintro e w21 ⟨v393, rfl, ho0, hb⟩; refine ⟨_, rfl, ?_⟩; have HO390 := rb_ HO390 hb; have HO394 := Aside0.mk (Kd.R_lower ho0 (below_size B_)); have HB := bs_ hb; (try clear hb); (try clear hb2); (try clear hk); (try clear hi); (try clear ho0); have hcv22 := own_string (P := Tryd.prog) Tryd.underlying69 Tryd.underlying5 Tryd.underlying9 (Kd.own_of_R HO394.out)))
   go_ret
   exact ⟨E_, B_⟩
 ·
  rw [if_neg c2] at H
  have c2b0 : (t392 == 0) = false := beq_eq_false_iff_ne.mpr c2
  have c2b1 : (t392 != 0) = true := bne_iff_ne.mpr c2
  obtain rfl := Option.some.inj H
  go_enter Tryd.func32, Tryd.ntmps32
  go_wp2_with (first | ((with_reducible refine d_ 6 ?_); refine Kd.R_lit k77 _ 77 ?hg (N := 6) ?hd (xs := ([(⟨0, 1, 258, 0⟩ : S77), (⟨0, 43, 0, 0⟩ : S77)] : List (S77))) (inner := [.int .i64 0, .int .i64 1, .int .i64 258, .int .i64 0, .int .i64 0, .int .i64 43, .int .i64 0, .int .i64 0]) (ok := fun _ => True) (okp := fun _ => True) ?hr ?hp (fun _ hk => hk) trivial (Below.refl _ _) (Nat.le_refl _) (by simp) ?_; (case hd => rfl); (case hg => rfl); (case hr => first | (go_simp; done) | (go_simp; rfl)); (case hp => exact (Reps.c4 (show Kd.M k77 _ _ _ (⟨0, 1, 258, 0⟩ : S77) [.int .i64 0, .int .i64 1, .int .i64 258, .int .i64 0] from (k77_mkM _ _ _ (⟨0, 1, 258, 0⟩ : S77) )) (Reps.c4 (show Kd.M k77 _ _ _ (⟨0, 43, 0, 0⟩ : S77) [.int .i64 0, .int .i64 43, .int .i64 0, .int .i64 0] from (k77_mkM _ _ _ (⟨0, 43, 0, 0⟩ : S77) )) (Reps.none _ _)))); intro v389 w23 ho24 hb hg_ hnew_; clear hg_ hnew_; (first | rw [← Ny388.out] at ho24 | (simp only [Int.reduceToNat] at ho24; rw [← Ny388.out] at ho24)); have HO390 := Aside0.mk (Kd.R_lower ho24 (below_size B_)); have HB := bs_ hb; clear hb ho24; obtain ⟨Ao25, co25, eo25⟩ := Kd.R_slice HO390.out; subst eo25) | ((with_reducible refine gt_ 61 ?_); refine gc_ 7 Tryd.func61 #[.slice Ao25 y388.length co25] ?_; (with_reducible refine (instr_Encode.calls k _ _ y388 t391 t392 _ ?side1 ?side2 A1.out).mono ?_); (case side1 => repeat (first | exact (Kd.R_reads' HO390.out).2.2 | (with_reducible refine Kd.C_alloc ?_ _) | (with_reducible refine Kd.C_drewN ?_ _) | (with_reducible refine Kd.C_drew ?_))); (case side2 => exact (Kd.R_reads' HO390.out).2.1); rintro e w26 ⟨v393, rfl, ho0, hb⟩; refine ⟨_, rfl, ?_⟩; have HO390 := rb_ HO390 hb; have HO394 := Aside0.mk (Kd.R_lower ho0 (below_size B_)); have HB := bs_ hb; (try clear hb); (try clear hb2); (try clear hk); (try clear hi); (try clear ho0)))
  go_ret
  exact ⟨E_, B_⟩
end Go.Proofs.YtldejfkplnejjaaDoor.P
