-- Written by my program xprint.py (a patched run of the kit's print). Lean checks it.
import Derived.Test.YtldejfkplnejjaaDoorP0
import Derived.Test.YtldejfkplnejjaaDoorP22
import Derived.Test.YtldejfkplnejjaaDoorExt
import Derived.Test.YtldejfkplnejjaaDoorShort
import Derived.Test.YtldejfkplnejjaaDoorShort2
namespace Go.Proofs.YtldejfkplnejjaaDoor.P
open Go.RowKit Go.Proofs.YtldejfkplnejjaaDoorW.PrintWords Go.Proofs.YtldejfkplnejjaaDoorW.PrintLast Go.Proofs.YtldejfkplnejjaaDoorW.PrintMore
attribute [local go_sem] max2_int min2_int max_two min_two max_three min_three max_four min_four   -- for this text's walks alone
set_option linter.unusedVariables false
set_option linter.unusedSimpArgs false
mutual
def keystoneref4_Size.j0 : Nat → Int → Bool → Option (Int)
 | 0, _, _ => none
 | k + 1, x0, x3 => if x3 = true then (some 0) else (if x0 = 3 then (keystoneref4_Size.j1 k x0 true) else (keystoneref4_Size.j1 k x0 (x0 == 4)))
def keystoneref4_Size.j1 : Nat → Int → Bool → Option (Int)
 | 0, _, _ => none
 | k + 1, x0, x10 => if x10 = true then (some 2) else (if x0 = 1 then (some 3) else ((keystoneref4_Jumps.f x0).bind fun t616 => (if t616 = true then (some 3) else (if x0 ≥ 25 then (if x0 ≤ 30 then (some 3) else (if x0 ≥ 36 then (if x0 ≤ 41 then (some 3) else (some 1)) else (some 1))) else (if x0 ≥ 36 then (if x0 ≤ 41 then (some 3) else (some 1)) else (some 1))))))
end
def keystoneref4_Size.f (k : Nat) (a0 : Int) : Option (Int) := if a0 < 0 then (keystoneref4_Size.j0 k a0 true) else (keystoneref4_Size.j0 k a0 (decide (a0 > 45)))
theorem keystoneref4_Size.mono_l : ∀ k, (∀ y0 y1, LeO (keystoneref4_Size.j0 k y0 y1) (keystoneref4_Size.j0 (k + 1) y0 y1)) ∧ (∀ y0 y1, LeO (keystoneref4_Size.j1 k y0 y1) (keystoneref4_Size.j1 (k + 1) y0 y1))
 | 0 => ⟨fun _ _ r h => by simp [keystoneref4_Size.j0] at h, fun _ _ r h => by simp [keystoneref4_Size.j1] at h⟩
 | k + 1 => by
  obtain ⟨ih0, ih1⟩ := keystoneref4_Size.mono_l k
  refine ⟨?_, ?_⟩
  ·
   intro y0 y1
   unfold keystoneref4_Size.j0
   repeat' first
   | (with_reducible exact ih0 _ _)
   | (with_reducible exact ih1 _ _)
   | (with_reducible exact LeO.refl _)
   | (with_reducible exact LeO.none _)
   | (with_reducible refine LeO.ite ?_ ?_)
   | (with_reducible refine LeO.bind ?_ (fun _ => ?_))
   | exact ih0 _ _
   | exact ih1 _ _
   | exact LeO.none _
   | refine LeO.ite ?_ ?_
   | refine LeO.bind ?_ (fun _ => ?_)
  ·
   intro y0 y1
   unfold keystoneref4_Size.j1
   repeat' first
   | (with_reducible exact ih0 _ _)
   | (with_reducible exact ih1 _ _)
   | (with_reducible exact LeO.refl _)
   | (with_reducible exact LeO.none _)
   | (with_reducible refine LeO.ite ?_ ?_)
   | (with_reducible refine LeO.bind ?_ (fun _ => ?_))
   | exact ih0 _ _
   | exact ih1 _ _
   | exact LeO.none _
   | refine LeO.ite ?_ ?_
   | refine LeO.bind ?_ (fun _ => ?_)
theorem keystoneref4_Size.mono : ∀ a0 k, LeO (keystoneref4_Size.f k a0) (keystoneref4_Size.f (k + 1) a0) := by
 intro a0 k
 obtain ⟨ih0, ih1⟩ := keystoneref4_Size.mono_l k
 unfold keystoneref4_Size.f
 repeat' first
  | (with_reducible exact ih0 _ _)
  | (with_reducible exact ih1 _ _)
  | (with_reducible exact LeO.refl _)
  | (with_reducible exact LeO.none _)
  | (with_reducible refine LeO.ite ?_ ?_)
  | (with_reducible refine LeO.bind ?_ (fun _ => ?_))
  | exact ih0 _ _
  | exact ih1 _ _
  | exact LeO.none _
  | refine LeO.ite ?_ ?_
  | refine LeO.bind ?_ (fun _ => ?_)
set_option maxHeartbeats 8000000 in
set_option maxRecDepth 100000 in
theorem keystoneref4_Size.calls (k : Nat) (a0 : Int) (r : Int) (w : World) (h : keystoneref4_Size.f k a0 = some r) :
 Calls Tryd.prog 117 #[.int .i64 a0] w fun e w' => e = .returned (.int .i64 r) ∧ Drawn0 w w' := by
 have H : (if a0 < 0 then (keystoneref4_Size.j0 k a0 true) else (keystoneref4_Size.j0 k a0 (decide (a0 > 45)))) = some r := h
 clear h
 have HC2 := Aside0.mk H
 clear H
 go_enter Tryd.func117, Tryd.ntmps117
 go_upto_region 1 with (fail)
 go_cut [3] (fun v3 wc => ∃ (kq : Nat) (x3_1 : Bool), v3 = .bool x3_1 ∧ Aside0 (keystoneref4_Size.j0 kq a0 x3_1 = some r) ∧ Aside0 (kq ≤ k) ∧ Drawn0 w wc)
 case first =>
  have H := HC2.out
  clear HC2
  by_cases c3 : a0 < 0
  ·
   rw [if_pos c3] at H
   have c3b0 : decide (a0 < 0) = true := decide_eq_true c3
   clear c3
   (first | rw [c3b0] | (simp only [i64_w, i32_w]; rw [c3b0]) | skip)
   have H' := Aside0.mk H
   clear H
   go_wp2
   go_meet
   case rel => exact ⟨_, (true), R_, H', ⟨by first | omega | exact Nat.le_refl _⟩, by repeat (first | exact Drawn0.refl _ | apply Drawn0.step)⟩
  ·
   rw [if_neg c3] at H
   have c3b0 : decide (a0 < 0) = false := decide_eq_false c3
   clear c3
   (first | rw [c3b0] | (simp only [i64_w, i32_w]; rw [c3b0]) | skip)
   have H' := Aside0.mk H
   clear H
   go_wp2
   go_meet
   case rel => exact ⟨_, (decide (a0 > 45)), R_, H', ⟨by first | omega | exact Nat.le_refl _⟩, by repeat (first | exact Drawn0.refl _ | apply Drawn0.step)⟩
 case rest =>
  clear HC2
  obtain ⟨kq, x3_1, rfl, HA, HJ1, ⟨mc1, rfl⟩⟩ := hcut
  cases kq with
  | zero => exact absurd HA.out (by simp [keystoneref4_Size.j0])
  | succ kj1 =>
   have H := HA.out
   clear HA
   simp only [keystoneref4_Size.j0] at H
   by_cases c4 : x3_1 = true
   ·
    subst c4
    have H1 : (some 0) = some r := by rw [if_pos rfl] at H; exact H
    clear H
    have H := H1
    clear H1
    obtain rfl := Option.some.inj H
    go_wp2
    go_ret
    exact ⟨by first | rfl | (simp; done) | (simp [*]; done) | (simp [wrap64]; done), by repeat (first | exact Drawn0.refl _ | apply Drawn0.step)⟩
   ·
    replace c4 := Bool.eq_false_iff.mpr c4
    subst c4
    have H1 : (if a0 = 3 then (keystoneref4_Size.j1 kj1 a0 true) else (keystoneref4_Size.j1 kj1 a0 (a0 == 4))) = some r := by rw [if_neg (show ¬ (false = true) by decide)] at H; exact H
    clear H
    have H := H1
    clear H1
    have HC5 := Aside0.mk H
    clear H
    go_upto_region 3 with (fail)
    go_cut [10] (fun v10 wc => ∃ (kq : Nat) (x10_4 : Bool), v10 = .bool x10_4 ∧ Aside0 (keystoneref4_Size.j1 kq a0 x10_4 = some r) ∧ Aside0 (kq ≤ kj1) ∧ Drawn0 w wc)
    case first =>
     have H := HC5.out
     clear HC5
     by_cases c6 : a0 = 3
     ·
      rw [if_pos c6] at H
      have c6b0 : (a0 == 3) = true := beq_iff_eq.mpr c6
      have c6b1 : (a0 != 3) = false := bne_eq_false_iff_eq.mpr c6
      clear c6
      (first | rw [c6b0] | (simp only [i64_w, i32_w]; rw [c6b0]) | skip)
      have H' := Aside0.mk H
      clear H
      go_wp2
      go_meet
      case rel => exact ⟨_, (true), R_, H', ⟨by have := HJ1.out; first | omega | exact Nat.le_refl _⟩, by repeat (first | exact Drawn0.refl _ | apply Drawn0.step)⟩
     ·
      rw [if_neg c6] at H
      have c6b0 : (a0 == 3) = false := beq_eq_false_iff_ne.mpr c6
      have c6b1 : (a0 != 3) = true := bne_iff_ne.mpr c6
      (first | rw [c6b0] | (simp only [i64_w, i32_w]; rw [c6b0]) | skip)
      have H' := Aside0.mk H
      clear H
      go_wp2
      go_meet
      case rel => exact ⟨_, ((a0 == 4)), R_, H', ⟨by have := HJ1.out; first | omega | exact Nat.le_refl _⟩, by repeat (first | exact Drawn0.refl _ | apply Drawn0.step)⟩
    case rest =>
     clear HC5
     obtain ⟨kq, x10_4, rfl, HA, HJ4, ⟨mc4, rfl⟩⟩ := hcut
     cases kq with
     | zero => exact absurd HA.out (by simp [keystoneref4_Size.j1])
     | succ kj4 =>
      have H := HA.out
      clear HA
      simp only [keystoneref4_Size.j1] at H
      by_cases c7 : x10_4 = true
      ·
       subst c7
       have H1 : (some 2) = some r := by rw [if_pos rfl] at H; exact H
       clear H
       have H := H1
       clear H1
       obtain rfl := Option.some.inj H
       go_wp2
       go_ret
       exact ⟨by first | rfl | (simp; done) | (simp [*]; done) | (simp [wrap64]; done), by repeat (first | exact Drawn0.refl _ | apply Drawn0.step)⟩
      ·
       replace c7 := Bool.eq_false_iff.mpr c7
       subst c7
       have H1 : (if a0 = 1 then (some 3) else ((keystoneref4_Jumps.f a0).bind fun t616 => (if t616 = true then (some 3) else (if a0 ≥ 25 then (if a0 ≤ 30 then (some 3) else (if a0 ≥ 36 then (if a0 ≤ 41 then (some 3) else (some 1)) else (some 1))) else (if a0 ≥ 36 then (if a0 ≤ 41 then (some 3) else (some 1)) else (some 1)))))) = some r := by rw [if_neg (show ¬ (false = true) by decide)] at H; exact H
       clear H
       have H := H1
       clear H1
       by_cases c8 : a0 = 1
       ·
        rw [if_pos c8] at H
        have c8b0 : (a0 == 1) = true := beq_iff_eq.mpr c8
        have c8b1 : (a0 != 1) = false := bne_eq_false_iff_eq.mpr c8
        clear c8
        obtain rfl := Option.some.inj H
        go_wp2
        go_ret
        exact ⟨by first | rfl | (simp; done) | (simp [*]; done) | (simp [wrap64]; done), by repeat (first | exact Drawn0.refl _ | apply Drawn0.step)⟩
       ·
        rw [if_neg c8] at H
        have c8b0 : (a0 == 1) = false := beq_eq_false_iff_ne.mpr c8
        have c8b1 : (a0 != 1) = true := bne_iff_ne.mpr c8
        replace H := Option.bind_eq_some_iff.mp H
        obtain ⟨t616, A90, H⟩ := H
        replace H : (if t616 = true then (some 3) else (if a0 ≥ 25 then (if a0 ≤ 30 then (some 3) else (if a0 ≥ 36 then (if a0 ≤ 41 then (some 3) else (some 1)) else (some 1))) else (if a0 ≥ 36 then (if a0 ≤ 41 then (some 3) else (some 1)) else (some 1)))) = some r := H
        have A9 := Aside0.mk A90
        clear A90
        by_cases c10 : t616 = true
        ·
         subst c10
         have H1 : (some 3) = some r := by rw [if_pos rfl] at H; exact H
         clear H
         have H := H1
         clear H1
         obtain rfl := Option.some.inj H
         go_wp2_with (first | (go_at_call 68; (with_reducible refine (keystoneref4_Jumps.calls a0 true _ A9.out).mono ?_); rintro e w' ⟨rfl, ⟨nd, rfl⟩⟩))
         go_ret
         exact ⟨by first | rfl | (simp; done) | (simp [*]; done) | (simp [wrap64]; done), by repeat (first | exact Drawn0.refl _ | apply Drawn0.step)⟩
        ·
         replace c10 := Bool.eq_false_iff.mpr c10
         subst c10
         have H1 : (if a0 ≥ 25 then (if a0 ≤ 30 then (some 3) else (if a0 ≥ 36 then (if a0 ≤ 41 then (some 3) else (some 1)) else (some 1))) else (if a0 ≥ 36 then (if a0 ≤ 41 then (some 3) else (some 1)) else (some 1))) = some r := by rw [if_neg (show ¬ (false = true) by decide)] at H; exact H
         clear H
         have H := H1
         clear H1
         by_cases c11 : a0 ≥ 25
         ·
          rw [if_pos c11] at H
          have c11b0 : decide (25 ≤ a0) = true := decide_eq_true c11
          clear c11
          by_cases c12 : a0 ≤ 30
          ·
           rw [if_pos c12] at H
           have c12b0 : decide (a0 ≤ 30) = true := decide_eq_true c12
           clear c12
           obtain rfl := Option.some.inj H
           go_wp2_with (first | (go_at_call 68; (with_reducible refine (keystoneref4_Jumps.calls a0 false _ A9.out).mono ?_); rintro e w' ⟨rfl, ⟨nd, rfl⟩⟩))
           go_ret
           exact ⟨by first | rfl | (simp; done) | (simp [*]; done) | (simp [wrap64]; done), by repeat (first | exact Drawn0.refl _ | apply Drawn0.step)⟩
          ·
           rw [if_neg c12] at H
           have c12b0 : decide (a0 ≤ 30) = false := decide_eq_false c12
           clear c12
           by_cases c13 : a0 ≥ 36
           ·
            rw [if_pos c13] at H
            have c13b0 : decide (36 ≤ a0) = true := decide_eq_true c13
            clear c13
            by_cases c14 : a0 ≤ 41
            ·
             rw [if_pos c14] at H
             have c14b0 : decide (a0 ≤ 41) = true := decide_eq_true c14
             clear c14
             obtain rfl := Option.some.inj H
             go_wp2_with (first | (go_at_call 68; (with_reducible refine (keystoneref4_Jumps.calls a0 false _ A9.out).mono ?_); rintro e w' ⟨rfl, ⟨nd, rfl⟩⟩))
             go_ret
             exact ⟨by first | rfl | (simp; done) | (simp [*]; done) | (simp [wrap64]; done), by repeat (first | exact Drawn0.refl _ | apply Drawn0.step)⟩
            ·
             rw [if_neg c14] at H
             have c14b0 : decide (a0 ≤ 41) = false := decide_eq_false c14
             clear c14
             obtain rfl := Option.some.inj H
             go_wp2_with (first | (go_at_call 68; (with_reducible refine (keystoneref4_Jumps.calls a0 false _ A9.out).mono ?_); rintro e w' ⟨rfl, ⟨nd, rfl⟩⟩))
             go_ret
             exact ⟨by first | rfl | (simp; done) | (simp [*]; done) | (simp [wrap64]; done), by repeat (first | exact Drawn0.refl _ | apply Drawn0.step)⟩
           ·
            rw [if_neg c13] at H
            have c13b0 : decide (36 ≤ a0) = false := decide_eq_false c13
            clear c13
            obtain rfl := Option.some.inj H
            go_wp2_with (first | (go_at_call 68; (with_reducible refine (keystoneref4_Jumps.calls a0 false _ A9.out).mono ?_); rintro e w' ⟨rfl, ⟨nd, rfl⟩⟩))
            go_ret
            exact ⟨by first | rfl | (simp; done) | (simp [*]; done) | (simp [wrap64]; done), by repeat (first | exact Drawn0.refl _ | apply Drawn0.step)⟩
         ·
          rw [if_neg c11] at H
          have c11b0 : decide (25 ≤ a0) = false := decide_eq_false c11
          clear c11
          by_cases c15 : a0 ≥ 36
          ·
           rw [if_pos c15] at H
           have c15b0 : decide (36 ≤ a0) = true := decide_eq_true c15
           clear c15
           by_cases c16 : a0 ≤ 41
           ·
            rw [if_pos c16] at H
            have c16b0 : decide (a0 ≤ 41) = true := decide_eq_true c16
            clear c16
            obtain rfl := Option.some.inj H
            go_wp2_with (first | (go_at_call 68; (with_reducible refine (keystoneref4_Jumps.calls a0 false _ A9.out).mono ?_); rintro e w' ⟨rfl, ⟨nd, rfl⟩⟩))
            go_ret
            exact ⟨by first | rfl | (simp; done) | (simp [*]; done) | (simp [wrap64]; done), by repeat (first | exact Drawn0.refl _ | apply Drawn0.step)⟩
           ·
            rw [if_neg c16] at H
            have c16b0 : decide (a0 ≤ 41) = false := decide_eq_false c16
            clear c16
            obtain rfl := Option.some.inj H
            go_wp2_with (first | (go_at_call 68; (with_reducible refine (keystoneref4_Jumps.calls a0 false _ A9.out).mono ?_); rintro e w' ⟨rfl, ⟨nd, rfl⟩⟩))
            go_ret
            exact ⟨by first | rfl | (simp; done) | (simp [*]; done) | (simp [wrap64]; done), by repeat (first | exact Drawn0.refl _ | apply Drawn0.step)⟩
          ·
           rw [if_neg c15] at H
           have c15b0 : decide (36 ≤ a0) = false := decide_eq_false c15
           clear c15
           obtain rfl := Option.some.inj H
           go_wp2_with (first | (go_at_call 68; (with_reducible refine (keystoneref4_Jumps.calls a0 false _ A9.out).mono ?_); rintro e w' ⟨rfl, ⟨nd, rfl⟩⟩))
           go_ret
           exact ⟨by first | rfl | (simp; done) | (simp [*]; done) | (simp [wrap64]; done), by repeat (first | exact Drawn0.refl _ | apply Drawn0.step)⟩
mutual
def keystoneref4_Decode.j0 : Nat → List Int → Int → Bool → Option (Int × Int × Int × Int × Int)
 | 0, _, _, _ => none
 | k + 1, x0, x1, x15 => if x15 = true then (some (0, 0, 0, 0, 11)) else (if 0 ≤ x1 then (if x1 < (x0.length : Int) then ((keystoneref4_Size.f k (wrap64 (rd x0 x1))).bind fun t620 => (if t620 = 0 then (some (0, 0, 0, 0, 17)) else (if (wrap64 ((x0.length : Int) - x1)) < t620 then (some (0, 0, 0, 0, 11)) else (keystoneref4_Decode.l0 k x0 x1 1 x1 (wrap64 (rd x0 x1)) 0 t620)))) else (none)) else (none))
def keystoneref4_Decode.l0 : Nat → List Int → Int → Int → Int → Int → Int → Int → Option (Int × Int × Int × Int × Int)
 | 0, _, _, _, _, _, _, _ => none
 | k + 1, x0, x1, x7, x620000, x620001, x620002, x620003 => if x7 < x620003 then (if 0 ≤ (wrap64 (x1 + x7)) then (if (wrap64 (x1 + x7)) < (x0.length : Int) then (keystoneref4_Decode.l0 k x0 x1 (wrap64 (x7 + 1)) x620000 x620001 (wrap64 ((wrap64 (256 * x620002)) + (wrap64 (rd x0 (wrap64 (x1 + x7)))))) x620003) else (none)) else (none)) else (some (x620000, x620001, x620002, x620003, 0))
end
def keystoneref4_Decode.f (k : Nat) (l0 : List Int) (a1 : Int) : Option (Int × Int × Int × Int × Int) := if a1 < 0 then (keystoneref4_Decode.j0 k l0 a1 true) else (keystoneref4_Decode.j0 k l0 a1 (decide (a1 ≥ (l0.length : Int))))
theorem keystoneref4_Decode.mono_l : ∀ k, (∀ y0 y1 y2, LeO (keystoneref4_Decode.j0 k y0 y1 y2) (keystoneref4_Decode.j0 (k + 1) y0 y1 y2)) ∧ (∀ y0 y1 y2 y3 y4 y5 y6, LeO (keystoneref4_Decode.l0 k y0 y1 y2 y3 y4 y5 y6) (keystoneref4_Decode.l0 (k + 1) y0 y1 y2 y3 y4 y5 y6))
 | 0 => ⟨fun _ _ _ r h => by simp [keystoneref4_Decode.j0] at h, fun _ _ _ _ _ _ _ r h => by simp [keystoneref4_Decode.l0] at h⟩
 | k + 1 => by
  obtain ⟨ih0, ih1⟩ := keystoneref4_Decode.mono_l k
  refine ⟨?_, ?_⟩
  ·
   intro y0 y1 y2
   unfold keystoneref4_Decode.j0
   repeat' first
   | (with_reducible exact ih0 _ _ _)
   | (with_reducible exact ih1 _ _ _ _ _ _ _)
   | (with_reducible exact keystoneref4_Size.mono _ _)
   | (with_reducible exact LeO.refl _)
   | (with_reducible exact LeO.none _)
   | (with_reducible refine LeO.ite ?_ ?_)
   | (with_reducible refine LeO.bind ?_ (fun _ => ?_))
   | exact ih0 _ _ _
   | exact ih1 _ _ _ _ _ _ _
   | exact keystoneref4_Size.mono _ _
   | exact LeO.none _
   | refine LeO.ite ?_ ?_
   | refine LeO.bind ?_ (fun _ => ?_)
  ·
   intro y0 y1 y2 y3 y4 y5 y6
   unfold keystoneref4_Decode.l0
   repeat' first
   | (with_reducible exact ih0 _ _ _)
   | (with_reducible exact ih1 _ _ _ _ _ _ _)
   | (with_reducible exact keystoneref4_Size.mono _ _)
   | (with_reducible exact LeO.refl _)
   | (with_reducible exact LeO.none _)
   | (with_reducible refine LeO.ite ?_ ?_)
   | (with_reducible refine LeO.bind ?_ (fun _ => ?_))
   | exact ih0 _ _ _
   | exact ih1 _ _ _ _ _ _ _
   | exact keystoneref4_Size.mono _ _
   | exact LeO.none _
   | refine LeO.ite ?_ ?_
   | refine LeO.bind ?_ (fun _ => ?_)
theorem keystoneref4_Decode.mono : ∀ a0 a1 k, LeO (keystoneref4_Decode.f k a0 a1) (keystoneref4_Decode.f (k + 1) a0 a1) := by
 intro a0 a1 k
 obtain ⟨ih0, ih1⟩ := keystoneref4_Decode.mono_l k
 unfold keystoneref4_Decode.f
 repeat' first
  | (with_reducible exact ih0 _ _ _)
  | (with_reducible exact ih1 _ _ _ _ _ _ _)
  | (with_reducible exact keystoneref4_Size.mono _ _)
  | (with_reducible exact LeO.refl _)
  | (with_reducible exact LeO.none _)
  | (with_reducible refine LeO.ite ?_ ?_)
  | (with_reducible refine LeO.bind ?_ (fun _ => ?_))
  | exact ih0 _ _ _
  | exact ih1 _ _ _ _ _ _ _
  | exact keystoneref4_Size.mono _ _
  | exact LeO.none _
  | refine LeO.ite ?_ ?_
  | refine LeO.bind ?_ (fun _ => ?_)
def keystoneref4_Decode.T12 : Bool × List (List Nat × List Nat) := (true, [([], []), ([0], [0]), ([1], [1]), ([], []), ([], []), ([], []), ([4, 5], [4, 5]), ([3, 6], [3, 6]), ([7], [7]), ([8], [8]), ([2, 9], [2, 9]), ([0, 1, 2, 3, 4, 5, 6, 7, 8, 9, 10], []), ([11, 10, 0, 1, 2, 3, 4, 5, 6, 7, 8, 9, 10], [10, 11])])
def keystoneref4_Decode.B12 : List Nat := [0, 1, 3, 0, 0, 0, 48, 120, 248, 504, 1023, 2047, 4095]
theorem keystoneref4_Decode.tab12 : rtab .any (opsOf Tryd.f101 12) = keystoneref4_Decode.T12 := by kernel_rfl
theorem keystoneref4_Decode.bits12 : waitsOk keystoneref4_Decode.T12.2 keystoneref4_Decode.B12 = true := by kernel_rfl
set_option maxHeartbeats 8000000 in
set_option maxRecDepth 100000 in
theorem keystoneref4_Decode.calls (k : Nat) (A0 : Option Addr) (c0 : Nat) (l0 : List Int) (a1 : Int) (r1 : Int) (r2 : Int) (r3 : Int) (r4 : Int) (r5 : Int) (w : World) (hr0 : Kd.C (Kd.int .u8) w A0 l0.length l0) (hc0 : l0.length ≤ c0) (h : keystoneref4_Decode.f k l0 a1 = some (r1, r2, r3, r4, r5)) :
 Calls Tryd.prog 101 #[.slice A0 l0.length c0, .int .i64 a1] w fun e w' => e = .returned (.tuple #[.agg #[.int .i64 r1, .int .i64 r2, .int .i64 r3, .int .i64 r4], .int .i64 r5]) ∧ Below w.heap.size w w' := by
 have hu77 := Tryd.underlying77
 have HR0 := Aside0.mk hr0
 have HC0 := Aside0.mk hc0
 clear hr0 hc0
 have HB := Aside0.mk (Below.refl w.heap.size w)
 have H : (if a1 < 0 then (keystoneref4_Decode.j0 k l0 a1 true) else (keystoneref4_Decode.j0 k l0 a1 (decide (a1 ≥ (l0.length : Int))))) = some (r1, r2, r3, r4, r5) := h
 clear h
 have HC3 := Aside0.mk H
 clear H
 go_enter Tryd.func101, Tryd.ntmps101
 go_upto_region 1 with (first | ((with_reducible refine d_ 4 ?_); (try (refine gate_guard (by rfl) ?_; dsimp only)); refine X_ 4 #[.int .i64 0, .int .i64 0, .int .i64 0, .int .i64 0] 77 ?_; intro gb617 hg w4 hbox hb; have BK617 := Aside0.mk hbox; have GW617 := Aside0.mk (s_ hg); have GE617 := GW617; have HB := bs_ hb; clear hb hbox hg))
 (try simp only [Act.put, List.setIfInBounds_toArray, List.set_cons_zero, List.set_cons_succ])
 go_cut [15] (fun v15 wc => ∃ (kq : Nat) (x15_2 : Bool), v15 = .bool x15_2 ∧ Aside0 (keystoneref4_Decode.j0 kq l0 a1 x15_2 = some (r1, r2, r3, r4, r5)) ∧ Aside0 (kq ≤ k) ∧ Aside0 (wc.heap[gb617]? = some (.cells #[.int .i64 0, .int .i64 0, .int .i64 0, .int .i64 0] 77 (0, 0))) ∧ Aside0 (Below w.heap.size w wc))
 case first =>
  have H := HC3.out
  clear HC3
  by_cases c5 : a1 < 0
  ·
   rw [if_pos c5] at H
   have c5b0 : decide (a1 < 0) = true := decide_eq_true c5
   clear c5
   (first | rw [c5b0] | (simp only [i64_w, i32_w]; rw [c5b0]) | skip)
   have H' := Aside0.mk H
   clear H
   go_wp2
   go_meet
   case rel => exact ⟨_, (true), R_, H', ⟨by first | omega | exact Nat.le_refl _⟩, ⟨M_⟩, ⟨B_⟩⟩
  ·
   rw [if_neg c5] at H
   have c5b0 : decide (a1 < 0) = false := decide_eq_false c5
   clear c5
   (first | rw [c5b0] | (simp only [i64_w, i32_w]; rw [c5b0]) | skip)
   have H' := Aside0.mk H
   clear H
   go_wp2
   go_meet
   case rel => exact ⟨_, (decide (a1 ≥ (l0.length : Int))), R_, H', ⟨by first | omega | exact Nat.le_refl _⟩, ⟨M_⟩, ⟨B_⟩⟩
 case rest =>
  clear HC3
  obtain ⟨kq, x15_2, rfl, HA, HJ2, BK617, HB⟩ := hcut
  cases kq with
  | zero => exact absurd HA.out (by simp [keystoneref4_Decode.j0])
  | succ kj2 =>
   have H := HA.out
   clear HA
   simp only [keystoneref4_Decode.j0] at H
   by_cases c6 : x15_2 = true
   ·
    subst c6
    have H1 : (some (0, 0, 0, 0, 11)) = some (r1, r2, r3, r4, r5) := by rw [if_pos rfl] at H; exact H
    clear H
    have H := H1
    clear H1
    simp only [Option.some.injEq, Prod.mk.injEq] at H
    obtain ⟨rfl, rfl, rfl, rfl, rfl⟩ := H
    obtain ⟨hcz7_0, hcz7_1, hcz7_2, hcz7_3, hfz7_0, hfz7_1, hfz7_2, hfz7_3⟩ := c4_ BK617.out
    go_wp2
    refine bodyPost_ret (results_ct rfl _ _ gb617 77 #[.int .i64 0, .int .i64 0, .int .i64 0, .int .i64 0] (0, 0) _ rfl P_ Tryd.underlying77 rfl (by kernel_rfl)) rfl ?_
    exact ⟨E_, B_⟩
   ·
    replace c6 := Bool.eq_false_iff.mpr c6
    subst c6
    have H1 : (if 0 ≤ a1 then (if a1 < (l0.length : Int) then ((keystoneref4_Size.f kj2 (wrap64 (rd l0 a1))).bind fun t620 => (if t620 = 0 then (some (0, 0, 0, 0, 17)) else (if (wrap64 ((l0.length : Int) - a1)) < t620 then (some (0, 0, 0, 0, 11)) else (keystoneref4_Decode.l0 kj2 l0 a1 1 a1 (wrap64 (rd l0 a1)) 0 t620)))) else (none)) else (none)) = some (r1, r2, r3, r4, r5) := by rw [if_neg (show ¬ (false = true) by decide)] at H; exact H
    clear H
    have H := H1
    clear H1
    by_cases c8 : 0 ≤ a1
    ·
     rw [if_pos c8] at H
     have c8b0 : decide (0 ≤ a1) = true := decide_eq_true c8
     clear c8
     by_cases c9 : a1 < (l0.length : Int)
     ·
      rw [if_pos c9] at H
      have c9b0 : decide (a1 < (l0.length : Int)) = true := decide_eq_true c9
      clear c9
      replace H := Option.bind_eq_some_iff.mp H
      obtain ⟨t620, A100, H⟩ := H
      replace H : (if t620 = 0 then (some (0, 0, 0, 0, 17)) else (if (wrap64 ((l0.length : Int) - a1)) < t620 then (some (0, 0, 0, 0, 11)) else (keystoneref4_Decode.l0 kj2 l0 a1 1 a1 (wrap64 (rd l0 a1)) 0 t620))) = some (r1, r2, r3, r4, r5) := H
      have A10 := Aside0.mk A100
      clear A100
      by_cases c11 : t620 = 0
      ·
       rw [if_pos c11] at H
       have c11b0 : (t620 == 0) = true := beq_iff_eq.mpr c11
       have c11b1 : (t620 != 0) = false := bne_eq_false_iff_eq.mpr c11
       clear c11
       simp only [Option.some.injEq, Prod.mk.injEq] at H
       obtain ⟨rfl, rfl, rfl, rfl, rfl⟩ := H
       have p618 : 0 ≤ (a1 : Int) := of_decide_eq_true A_
       have q618 : a1 < (l0.length : Int) := of_decide_eq_true A_
       obtain ⟨ad618, e618, hx618_0⟩ := Kd.at_int HR0.out a1 p618 q618
       cases e618
       replace hx618_0 := h_ HB hx618_0
       replace p618 := eq_true p618
       replace q618 := eq_true q618
       go_wp2_with (first | ((with_reducible refine d_ 6 ?_); (try (refine gate_guard (by rfl) ?_; dsimp only)); refine X_ 6 #[.int .i64 0, .int .i64 0, .int .i64 0, .int .i64 0] 77 ?_; intro gb619 hg w12 hbox hb; have BK619 := Aside0.mk hbox; have GW619 := Aside0.mk (s_ hg); have GE619 := GW619; have NB617_619 := Aside0.mk (xx_ hg BK617); have BK617 := kb_ BK617 hb; have NB619_617 := Aside0.mk NB617_619.out.symm; have HB := bs_ hb; clear hb hbox hg; have hnb13 := NB619_617.out; have hnc13 := NB617_619.out; obtain ⟨hcz14_0, hcz14_1, hcz14_2, hcz14_3, hfz14_0, hfz14_1, hfz14_2, hfz14_3⟩ := c4_ BK619.out) | ((with_reducible refine gt_ 117 ?_); refine gd_ 26 Tryd.func117 (keystoneref4_Size.calls kj2 (wrap64 (rd l0 a1)) t620 _ A10.out) ?_; rintro w' ⟨nd, rfl⟩; obtain ⟨hcz15_0, hcz15_1, hcz15_2, hcz15_3, hfz15_0, hfz15_1, hfz15_2, hfz15_3⟩ := c4_ BK617.out))
       refine bodyPost_ret (results_ct rfl _ _ gb617 77 #[.int .i64 0, .int .i64 0, .int .i64 0, .int .i64 0] (0, 0) _ rfl P_ Tryd.underlying77 rfl (by kernel_rfl)) rfl ?_
       exact ⟨E_, B_⟩
      ·
       rw [if_neg c11] at H
       have c11b0 : (t620 == 0) = false := beq_eq_false_iff_ne.mpr c11
       have c11b1 : (t620 != 0) = true := bne_iff_ne.mpr c11
       by_cases c16 : (wrap64 ((l0.length : Int) - a1)) < t620
       ·
        rw [if_pos c16] at H
        have c16b0 : decide ((wrap64 ((l0.length : Int) - a1)) < t620) = true := decide_eq_true c16
        clear c16
        simp only [Option.some.injEq, Prod.mk.injEq] at H
        obtain ⟨rfl, rfl, rfl, rfl, rfl⟩ := H
        have p618 : 0 ≤ (a1 : Int) := of_decide_eq_true A_
        have q618 : a1 < (l0.length : Int) := of_decide_eq_true A_
        obtain ⟨ad618, e618, hx618_0⟩ := Kd.at_int HR0.out a1 p618 q618
        cases e618
        replace hx618_0 := h_ HB hx618_0
        replace p618 := eq_true p618
        replace q618 := eq_true q618
        go_wp2_with (first | ((with_reducible refine d_ 6 ?_); (try (refine gate_guard (by rfl) ?_; dsimp only)); refine X_ 6 #[.int .i64 0, .int .i64 0, .int .i64 0, .int .i64 0] 77 ?_; intro gb619 hg w17 hbox hb; have BK619 := Aside0.mk hbox; have GW619 := Aside0.mk (s_ hg); have GE619 := GW619; have NB617_619 := Aside0.mk (xx_ hg BK617); have BK617 := kb_ BK617 hb; have NB619_617 := Aside0.mk NB617_619.out.symm; have HB := bs_ hb; clear hb hbox hg; have hnb18 := NB619_617.out; have hnc18 := NB617_619.out; obtain ⟨hcz19_0, hcz19_1, hcz19_2, hcz19_3, hfz19_0, hfz19_1, hfz19_2, hfz19_3⟩ := c4_ BK619.out) | ((with_reducible refine gt_ 117 ?_); refine gd_ 26 Tryd.func117 (keystoneref4_Size.calls kj2 (wrap64 (rd l0 a1)) t620 _ A10.out) ?_; rintro w' ⟨nd, rfl⟩; obtain ⟨hcz20_0, hcz20_1, hcz20_2, hcz20_3, hfz20_0, hfz20_1, hfz20_2, hfz20_3⟩ := c4_ BK617.out))
        refine bodyPost_ret (results_ct rfl _ _ gb617 77 #[.int .i64 0, .int .i64 0, .int .i64 0, .int .i64 0] (0, 0) _ rfl P_ Tryd.underlying77 rfl (by kernel_rfl)) rfl ?_
        exact ⟨E_, B_⟩
       ·
        rw [if_neg c16] at H
        have c16b0 : decide ((wrap64 ((l0.length : Int) - a1)) < t620) = false := decide_eq_false c16
        clear c16
        have H' := Aside0.mk H
        clear H
        have p618 : 0 ≤ (a1 : Int) := of_decide_eq_true A_
        have q618 : a1 < (l0.length : Int) := of_decide_eq_true A_
        obtain ⟨ad618, e618, hx618_0⟩ := Kd.at_int HR0.out a1 p618 q618
        cases e618
        replace hx618_0 := h_ HB hx618_0
        replace p618 := eq_true p618
        replace q618 := eq_true q618
        go_wp2_with (first | ((with_reducible refine d_ 6 ?_); (try (refine gate_guard (by rfl) ?_; dsimp only)); refine X_ 6 #[.int .i64 0, .int .i64 0, .int .i64 0, .int .i64 0] 77 ?_; intro gb619 hg w21 hbox hb; have BK619 := Aside0.mk hbox; have GW619 := Aside0.mk (s_ hg); have GE619 := GW619; have NB617_619 := Aside0.mk (xx_ hg BK617); have BK617 := kb_ BK617 hb; have NB619_617 := Aside0.mk NB617_619.out.symm; have HB := bs_ hb; clear hb hbox hg; have hnb22 := NB619_617.out; have hnc22 := NB617_619.out; obtain ⟨hcz23_0, hcz23_1, hcz23_2, hcz23_3, hfz23_0, hfz23_1, hfz23_2, hfz23_3⟩ := c4_ BK619.out) | ((with_reducible refine gt_ 117 ?_); refine gd_ 26 Tryd.func117 (keystoneref4_Size.calls kj2 (wrap64 (rd l0 a1)) t620 _ A10.out) ?_; rintro w' ⟨nd, rfl⟩))
        go_loopg [7] kj2 (fun kq v7 w' => ∃ (x7_2 : Int) (x620002_2 : Int), v7 = .int .i64 x7_2 ∧ Aside0 (keystoneref4_Decode.l0 kq l0 a1 x7_2 a1 (wrap64 (rd l0 a1)) x620002_2 t620 = some (r1, r2, r3, r4, r5)) ∧ Aside0 (kq ≤ kj2) ∧ Aside0 (w'.heap[gb617]? = some (.cells #[.int .i64 0, .int .i64 0, .int .i64 0, .int .i64 0] 77 (0, 0))) ∧ Aside0 (w'.heap[gb619]? = some (.cells #[.int .i64 a1, .int .i64 (wrap64 (rd l0 a1)), .int .i64 x620002_2, .int .i64 t620] 77 (0, 0))) ∧ Aside0 (Below w.heap.size w w'))
        case atStart => exact ⟨(1), (0), R_, H', ⟨Nat.le_refl _⟩, ⟨P_⟩, ⟨P_⟩, ⟨B_⟩⟩
        case round =>
         clear H' c8b0 c9b0 c11 c11b0 c11b1 c16b0 hcz23_0 hcz23_1 hcz23_2 hcz23_3 hfz23_0 hfz23_1 hfz23_2 hfz23_3 hx618_0 p618 q618
         obtain ⟨x7_2, x620002_2, rfl, HA, HK2, BK617, BK619, HB⟩ := hrel
         cases gk with
         | zero => exact absurd HA.out (by simp [keystoneref4_Decode.l0])
         | succ k2 =>
          have H := HA.out
          clear HA
          simp only [keystoneref4_Decode.l0] at H
          by_cases c24 : x7_2 < t620
          ·
           rw [if_pos c24] at H
           have c24b0 : decide (x7_2 < t620) = true := decide_eq_true c24
           clear c24
           obtain ⟨ji25, hji25⟩ : ∃ j_ : Int, (wrap64 (a1 + x7_2)) = j_ := ⟨_, rfl⟩
           replace H : (if 0 ≤ (ji25) then (if (ji25) < (l0.length : Int) then (keystoneref4_Decode.l0 k2 l0 a1 (wrap64 (x7_2 + 1)) a1 (wrap64 (rd l0 a1)) (wrap64 ((wrap64 (256 * x620002_2)) + (wrap64 (rd l0 (ji25))))) t620) else (none)) else (none)) = some (r1, r2, r3, r4, r5) := by first | (rw [hji25] at H; exact H) | (simp only [hji25] at H ⊢; exact H)
           have hji25w : (IntKind.i64.wrap (a1 + x7_2)) = ji25 := (i64_w _).trans hji25
           by_cases c26 : 0 ≤ (ji25)
           ·
            rw [if_pos c26] at H
            have c26b0 : decide (0 ≤ (ji25)) = true := decide_eq_true c26
            clear c26
            by_cases c27 : (ji25) < (l0.length : Int)
            ·
             rw [if_pos c27] at H
             have c27b0 : decide ((ji25) < (l0.length : Int)) = true := decide_eq_true c27
             clear c27
             have H' := Aside0.mk H
             clear H
             have hnb28 := NB619_617.out
             have hnc28 := NB617_619.out
             obtain ⟨hcz29_0, hcz29_1, hcz29_2, hcz29_3, hfz29_0, hfz29_1, hfz29_2, hfz29_3⟩ := c4_ BK619.out
             try go_wp2
             have n0_ := Aside0.mk (blk_drew BK617.out)
             have n1_ := Aside0.mk (blk_drew BK619.out)
             have n2_ := Aside0.mk (below_drew1 HB.out)
             clear BK617 BK619 HB
             have BK617 := n0_
             have BK619 := n1_
             have HB := n2_
             clear n0_ n1_ n2_
             have p621 : 0 ≤ ((ji25) : Int) := of_decide_eq_true A_
             have q621 : (ji25) < (l0.length : Int) := of_decide_eq_true A_
             obtain ⟨ad621, e621, hx621_0⟩ := Kd.at_int HR0.out (ji25) p621 q621
             have hw621_0 := hx621_0
             obtain rfl : ad618 = ad621 := (by injection e621)
             replace hx621_0 := h_ HB hx621_0
             replace p621 := eq_true p621
             replace q621 := eq_true q621
             refine start_ (n := 13) (S := fun w' => w'.cell? ⟨gb619, 0, none⟩ = some (.int .i64 a1) ∧ w'.cell? ⟨gb619, 1, none⟩ = some (.int .i64 (wrap64 (rd l0 a1))) ∧ w'.cell? ⟨gb619, 2, none⟩ = some (.int .i64 x620002_2) ∧ w'.cell? ⟨gb619, 3, none⟩ = some (.int .i64 t620) ∧ w'.cell? (ad618.add ((ji25)).toNat) = some (.int .u8 (rd l0 (ji25)))) (ds := [12]) #[false, false, false, false, false, false, false, false, false, false, false, false, false] (by kernel_rfl) rfl rfl ⟨(blk_cell BK619.out 0).trans rfl, (blk_cell BK619.out 1).trans rfl, (blk_cell BK619.out 2).trans rfl, (blk_cell BK619.out 3).trans rfl, ((HB.out.cell (World.block_lt_of_cell? w _ hw621_0)).trans hw621_0)⟩ (fun hHeld => ?_); refine with_tabW keystoneref4_Decode.tab12 keystoneref4_Decode.bits12 (fun HT_ HW_ => ?_)
             generalize wr.drew = w30 at BK617 BK619 HB hx621_0 hHeld ⊢
             refine u_ 0 46 (bb 13 1) ?_
             refine u_ 3 49 (bb 13 9) ?_
             refine u_ 4 50 (bb 13 25) ?_
             refine u_ 5 51 (bb 13 57) ?_
             refine u_ 6 52 (bb 13 121) ?_
             refine u_ 7 53 (bb 13 249) ?_
             refine t_ 1 47 (bb 13 251) ?_
             refine u_ 2 48 (bb 13 255) ?_
             refine t_ 8 54 (bb 13 511) ?_
             refine u_ 9 55 (bb 13 1023) ?_
             refine u_ 10 56 (bb 13 2047) ?_
             refine u_ 11 57 (bb 13 4095) ?_
             refine last_ (i := 12) (N := none) #[true, true, true, true, true, true, true, true, true, true, true, true, true] rfl rfl (one_of HT_.out (by kernel_rfl)) (by decide) (fun K hK => ?_)
             have hs31 : w30.cell? ⟨gb619, 2, none⟩ = some (.int .i64 x620002_2) := (blk_cell BK619.out 2).trans rfl
             have hfs31 := blk_frozen BK619.out 2
             have hns31_0 := NB617_619.out
             have hms31_0 := NB619_617.out
             refine skip_ (w1 := ?_) (by rfl) rfl ?_ ?_
             rotate_left
             ·
              go_simp
              rfl
             refine hK.out _ _ ?_
             clear hK K
             refine done_ (done_of HT_.out (by kernel_rfl)) ?_
             try go_wp2
             go_roundg k2
             case measure => have := HJ2.out; have := HK2.out; omega
             case rel => exact ⟨(wrap64 (x7_2 + 1)), (wrap64 ((wrap64 (256 * x620002_2)) + (wrap64 (rd l0 (ji25))))), R_, H', ⟨by have := HJ2.out; have := HK2.out; omega⟩, ⟨P_⟩, ⟨P_⟩, ⟨B_⟩⟩
            ·
             rw [if_neg c27] at H
             exact absurd H (by simp)
           ·
            rw [if_neg c26] at H
            exact absurd H (by simp)
          ·
           rw [if_neg c24] at H
           have c24b0 : decide (x7_2 < t620) = false := decide_eq_false c24
           clear c24
           simp only [Option.some.injEq, Prod.mk.injEq] at H
           obtain ⟨rfl, rfl, rfl, rfl, rfl⟩ := H
           have hnb32 := NB619_617.out
           have hnc32 := NB617_619.out
           obtain ⟨hcz33_0, hcz33_1, hcz33_2, hcz33_3, hfz33_0, hfz33_1, hfz33_2, hfz33_3⟩ := c4_ BK619.out
           obtain ⟨hcz34_0, hcz34_1, hcz34_2, hcz34_3, hfz34_0, hfz34_1, hfz34_2, hfz34_3⟩ := c4_ BK617.out
           go_wp2
           refine bodyPost_ret (results_ct rfl _ _ gb617 77 #[.int .i64 a1, .int .i64 (wrap64 (rd l0 a1)), .int .i64 x620002_2, .int .i64 t620] (0, 0) _ rfl P_ Tryd.underlying77 rfl (by kernel_rfl)) rfl ?_
           exact ⟨E_, B_⟩
     ·
      rw [if_neg c9] at H
      exact absurd H (by simp)
    ·
     rw [if_neg c8] at H
     exact absurd H (by simp)
def keystoneref4_All.l0 : Nat → List Int → List (S77) → Int → Option ((List (S77)) × Int × Int)
 | 0, _, _, _ => none
 | k + 1, x0, x5, x6 => if x6 < (x0.length : Int) then ((keystoneref4_Decode.f k x0 x6).bind fun bt622 => (if bt622.2.2.2.2 = 0 then (if x5.length < 4398046511104 then (keystoneref4_All.l0 k x0 (x5 ++ [(⟨bt622.1, bt622.2.1, bt622.2.2.1, bt622.2.2.2.1⟩ : S77)]) (wrap64 (x6 + bt622.2.2.2.1))) else (none)) else (some (([] : List (S77)), x6, bt622.2.2.2.2)))) else (some (x5, 0, 0))
def keystoneref4_All.f (k : Nat) (l0 : List Int) : Option ((List (S77)) × Int × Int) := keystoneref4_All.l0 k l0 ([] : List (S77)) 0
theorem keystoneref4_All.mono_l : ∀ k, (∀ y0 y1 y2, LeO (keystoneref4_All.l0 k y0 y1 y2) (keystoneref4_All.l0 (k + 1) y0 y1 y2))
 | 0 => fun _ _ _ r h => by simp [keystoneref4_All.l0] at h
 | k + 1 => by
  have ih0 := keystoneref4_All.mono_l k
  ·
   intro y0 y1 y2
   unfold keystoneref4_All.l0
   repeat' first
   | (with_reducible exact ih0 _ _ _)
   | (with_reducible exact keystoneref4_Decode.mono _ _ _)
   | (with_reducible exact LeO.refl _)
   | (with_reducible exact LeO.none _)
   | (with_reducible refine LeO.ite ?_ ?_)
   | (with_reducible refine LeO.bind ?_ (fun _ => ?_))
   | exact ih0 _ _ _
   | exact keystoneref4_Decode.mono _ _ _
   | exact LeO.none _
   | refine LeO.ite ?_ ?_
   | refine LeO.bind ?_ (fun _ => ?_)
theorem keystoneref4_All.mono : ∀ a0 k, LeO (keystoneref4_All.f k a0) (keystoneref4_All.f (k + 1) a0) := by
 intro a0 k
 have ih0 := keystoneref4_All.mono_l k
 unfold keystoneref4_All.f
 repeat' first
  | (with_reducible exact ih0 _ _ _)
  | (with_reducible exact keystoneref4_Decode.mono _ _ _)
  | (with_reducible exact LeO.refl _)
  | (with_reducible exact LeO.none _)
  | (with_reducible refine LeO.ite ?_ ?_)
  | (with_reducible refine LeO.bind ?_ (fun _ => ?_))
  | exact ih0 _ _ _
  | exact keystoneref4_Decode.mono _ _ _
  | exact LeO.none _
  | refine LeO.ite ?_ ?_
  | refine LeO.bind ?_ (fun _ => ?_)
set_option maxHeartbeats 8000000 in
set_option maxRecDepth 100000 in
theorem keystoneref4_All.calls (k : Nat) (A0 : Option Addr) (c0 : Nat) (l0 : List Int) (r1 : List (S77)) (r2 : Int) (r3 : Int) (w : World) (hr0 : Kd.C (Kd.int .u8) w A0 l0.length l0) (hc0 : l0.length ≤ c0) (h : keystoneref4_All.f k l0 = some (r1, r2, r3)) :
 Calls Tryd.prog 67 #[.slice A0 l0.length c0] w fun e w' => ∃ v0_ : Value, e = .returned (.tuple #[v0_, .int .i64 r2, .int .i64 r3]) ∧ Kd.R k77 77 w' w.heap.size (fun _ => True) v0_ r1 ∧ Below w.heap.size w w' := by
 have hu77 := Tryd.underlying77
 have HR0 := Aside0.mk hr0
 have HC0 := Aside0.mk hc0
 clear hr0 hc0
 have HB := Aside0.mk (Below.refl w.heap.size w)
 have H : (keystoneref4_All.l0 k l0 ([] : List (S77)) 0) = some (r1, r2, r3) := h
 clear h
 have H' := Aside0.mk H
 clear H
 go_enter Tryd.func67, Tryd.ntmps67
 go_wp2
 go_loopg [5, 6] k (fun kq v5 v6 w' => ∃ (x5_1 : List (S77)) (x6_1 : Int), v6 = .int .i64 x6_1 ∧ Aside0 (keystoneref4_All.l0 kq l0 x5_1 x6_1 = some (r1, r2, r3)) ∧ Aside0 (kq ≤ k) ∧ Aside0 (Kd.R k77 77 w' w.heap.size (fun _ => True) v5 x5_1) ∧ Aside0 (Below w.heap.size w w'))
 case atStart => exact ⟨(([] : List (S77))), (0), R_, H', ⟨Nat.le_refl _⟩, ⟨by first | exact Kd.R_nil _ _ _ _ _ | exact Kd.N_nil _ _ _ _ _ | exact Kd.V_nil _ _ _ _ _ | exact Kd.Q_nil _ _ _ _ _ | exact Kd.S_nil _ _ _ _ _⟩, ⟨B_⟩⟩
 case round =>
  clear H'
  obtain ⟨x5_1, x6_1, rfl, HA, HK1, HO_5, HB⟩ := hrel
  cases gk with
  | zero => exact absurd HA.out (by simp [keystoneref4_All.l0])
  | succ k1 =>
   have H := HA.out
   clear HA
   simp only [keystoneref4_All.l0] at H
   by_cases c2 : x6_1 < (l0.length : Int)
   ·
    rw [if_pos c2] at H
    have c2b0 : decide (x6_1 < (l0.length : Int)) = true := decide_eq_true c2
    clear c2
    replace H := Option.bind_eq_some_iff.mp H
    obtain ⟨⟨t622, t623, t624, t625, t626⟩, A30, H⟩ := H
    replace H : (if t626 = 0 then (if x5_1.length < 4398046511104 then (keystoneref4_All.l0 k1 l0 (x5_1 ++ [(⟨t622, t623, t624, t625⟩ : S77)]) (wrap64 (x6_1 + t625))) else (none)) else (some (([] : List (S77)), x6_1, t626))) = some (r1, r2, r3) := H
    have A3 := Aside0.mk A30
    clear A30
    by_cases c4 : t626 = 0
    ·
     rw [if_pos c4] at H
     have c4b0 : (t626 == 0) = true := beq_iff_eq.mpr c4
     have c4b1 : (t626 != 0) = false := bne_eq_false_iff_eq.mpr c4
     clear c4
     by_cases c5 : x5_1.length < 4398046511104
     ·
      rw [if_pos c5] at H
      have LMc5 := Aside0.mk c5
      clear c5
      obtain ⟨y628, hy628⟩ : ∃ y_ : List (S77), y_ = (x5_1 ++ [(⟨t622, t623, t624, t625⟩ : S77)]) := ⟨_, rfl⟩
      replace H : (keystoneref4_All.l0 k1 l0 y628 (wrap64 (x6_1 + t625))) = some (r1, r2, r3) := by first | (rw [hy628]; with_reducible exact H) | (have H2_ := (Option.bind_some _ _).symm.trans H; rw [hy628]; with_reducible exact H2_) | (have H2_ := (Option.bind_some _ _).symm.trans H; with_reducible exact H2_) | with_reducible exact H | (rw [hy628]; exact H) | exact H
      have Ny628 := Aside0.mk hy628
      clear hy628
      have H' := Aside0.mk H
      clear H
      go_wp2_with (first | ((with_reducible refine gt_ 101 ?_); refine gd_ 16 Tryd.func101 (keystoneref4_Decode.calls k1 _ _ l0 x6_1 t622 t623 t624 t625 t626 _ (Y_ (Kd.C_below HR0.out HB.out)) HC0.out A3.out) ?_; intro w6 hb; have HO_5 := rb_ HO_5 hb; have HB := bs_ hb; (try clear hb); (try clear hb2); (try clear hk); (try clear hi)) | ((with_reducible refine d_ 7 ?_); refine X_ 7 #[.int .i64 0, .int .i64 0, .int .i64 0, .int .i64 0] 77 ?_; intro gb627 hg w7 hbox hb; have HO_5 := Aside0.mk (Kd.R_below (Kd.R_elderB (Q_ HO_5.out) gb627 (Nat.le_of_eq hg.symm)) hb); have BK627 := Aside0.mk hbox; have GW627 := Aside0.mk (s_ hg); have GE627 := GW627; have HB := bs_ hb; clear hb hbox hg; obtain ⟨hcz8_0, hcz8_1, hcz8_2, hcz8_3, hfz8_0, hfz8_1, hfz8_2, hfz8_3⟩ := c4_ BK627.out) | ((with_reducible refine gate_builtin (b := .append) (xs := #[.tmp 23, .tmp 25]) rfl ?_); at_builtin; refine Kd.R_append k77 (w0 := w) w.heap.size rfl (.tmp 23) (.tmp 25) 73 77 (.agg #[(.int .i64 0), (.int .i64 0), (.int .i64 0), (.int .i64 0)]) 32 rfl Tryd.underlying73 info77 rfl (by decide) (by omega) u5 x5_1 (⟨t622, t623, t624, t625⟩ : S77) [.int .i64 t622, .int .i64 t623, .int .i64 t624, .int .i64 t625] (fun k_ => k_ ≠ gb627) (fun _ => False) rfl (by first | (go_simp; done) | (go_simp; rfl)) ?aP (fun _ hk => hk.elim) ?aF ?aO ?aB ?aS ?aL ?_; (case aP => exact k77_mkM _ _ _ (⟨t622, t623, t624, t625⟩ : S77)); (case aB => exact B_); (case aF => exact (fun k_ hk => Kd.freshB (g := gb627) (o := .cells #[.int .i64 t622, .int .i64 t623, .int .i64 t624, .int .i64 t625] 77 (0, 0)) P_ k_ hk)); (case aO => exact (by (with_reducible repeat (first | apply Kd.R_alloc | apply Kd.R_drewN | apply Kd.R_drew)); exact Kd.R_mono (Kd.R_far (p := ⟨gb627, 3, none⟩) (Kd.R_far (p := ⟨gb627, 2, none⟩) (Kd.R_far (p := ⟨gb627, 1, none⟩) (Kd.R_far (p := ⟨gb627, 0, none⟩) (Kd.R_mono HO_5.out (fun k_ hk => (⟨hk, hk.2⟩ : _ ∧ k_ ≠ gb627))) (fun _ hk => hk.2) (.int .i64 t622)) (fun _ hk => hk.2) (.int .i64 t623)) (fun _ hk => hk.2) (.int .i64 t624)) (fun _ hk => hk.2) (.int .i64 t625)) (fun _ hk => hk.1.2))); (case aS => exact (below_size B_)); (case aL => have := LMc5.out; omega); intro v629 w9 ho hb hg hat; rw [← Ny628.out] at ho; have BK627 := Aside0.mk (blk_grown (g := gb627) (o := .cells #[.int .i64 t622, .int .i64 t623, .int .i64 t624, .int .i64 t625] 77 (0, 0)) P_ hg (Kd.R_away HO_5.out (fun _ hk => hk.2))); have HO630 := Aside0.mk (ho); have HB := Aside0.mk (hb); clear HO_5; clear ho hb hg hat; obtain ⟨hcz10_0, hcz10_1, hcz10_2, hcz10_3, hfz10_0, hfz10_1, hfz10_2, hfz10_3⟩ := c4_ BK627.out))
      go_roundg k1
      case measure => have := HK1.out; omega
      case rel => exact ⟨(y628), (wrap64 (x6_1 + t625)), R_, H', ⟨by have := HK1.out; omega⟩, ⟨by (with_reducible repeat (first | apply Kd.R_alloc | apply Kd.R_drewN | apply Kd.R_drew)); exact Kd.R_mono HO630.out (fun _ hk => trivial)⟩, ⟨B_⟩⟩
     ·
      rw [if_neg c5] at H
      exact absurd H (by simp)
    ·
     rw [if_neg c4] at H
     have c4b0 : (t626 == 0) = false := beq_eq_false_iff_ne.mpr c4
     have c4b1 : (t626 != 0) = true := bne_iff_ne.mpr c4
     simp only [Option.some.injEq, Prod.mk.injEq] at H
     obtain ⟨rfl, rfl, rfl⟩ := H
     go_wp2_with (first | ((with_reducible refine gt_ 101 ?_); refine gd_ 16 Tryd.func101 (keystoneref4_Decode.calls k1 _ _ l0 x6_1 t622 t623 t624 t625 t626 _ (Y_ (Kd.C_below HR0.out HB.out)) HC0.out A3.out) ?_; intro w11 hb; have HO_5 := rb_ HO_5 hb; have HB := bs_ hb; (try clear hb); (try clear hb2); (try clear hk); (try clear hi)) | ((with_reducible refine d_ 7 ?_); refine X_ 7 #[.int .i64 0, .int .i64 0, .int .i64 0, .int .i64 0] 77 ?_; intro gb627 hg w12 hbox hb; have HO_5 := Aside0.mk (Kd.R_below (Kd.R_elderB (Q_ HO_5.out) gb627 (Nat.le_of_eq hg.symm)) hb); have BK627 := Aside0.mk hbox; have GW627 := Aside0.mk (s_ hg); have GE627 := GW627; have HB := bs_ hb; clear hb hbox hg; obtain ⟨hcz13_0, hcz13_1, hcz13_2, hcz13_3, hfz13_0, hfz13_1, hfz13_2, hfz13_3⟩ := c4_ BK627.out))
     go_ret3
     exact ⟨_, E_, by first | exact Kd.R_nil _ _ _ _ _ | exact Kd.N_nil _ _ _ _ _ | exact Kd.V_nil _ _ _ _ _ | exact Kd.Q_nil _ _ _ _ _ | exact Kd.S_nil _ _ _ _ _, B_⟩
   ·
    rw [if_neg c2] at H
    have c2b0 : decide (x6_1 < (l0.length : Int)) = false := decide_eq_false c2
    clear c2
    simp only [Option.some.injEq, Prod.mk.injEq] at H
    obtain ⟨rfl, rfl, rfl⟩ := H
    go_wp2
    go_ret3
    exact ⟨_, E_, by (with_reducible repeat (first | apply Kd.R_alloc | apply Kd.R_drewN | apply Kd.R_drew)); exact HO_5.out, B_⟩
def keystoneref4_Place.l0 : Nat → List (S77) → Int → Int → Option (Int)
 | 0, _, _, _ => none
 | k + 1, x0, x1, x5 => if x5 < (x0.length : Int) then (if 0 ≤ x5 then (if ((rd_T77 x0 x5).f0) = x1 then (some x5) else (keystoneref4_Place.l0 k x0 x1 (wrap64 (x5 + 1)))) else (none)) else (some (-1))
def keystoneref4_Place.f (k : Nat) (l0 : List (S77)) (a1 : Int) : Option (Int) := keystoneref4_Place.l0 k l0 a1 0
theorem keystoneref4_Place.mono_l : ∀ k, (∀ y0 y1 y2, LeO (keystoneref4_Place.l0 k y0 y1 y2) (keystoneref4_Place.l0 (k + 1) y0 y1 y2))
 | 0 => fun _ _ _ r h => by simp [keystoneref4_Place.l0] at h
 | k + 1 => by
  have ih0 := keystoneref4_Place.mono_l k
  ·
   intro y0 y1 y2
   unfold keystoneref4_Place.l0
   repeat' first
   | (with_reducible exact ih0 _ _ _)
   | (with_reducible exact LeO.refl _)
   | (with_reducible exact LeO.none _)
   | (with_reducible refine LeO.ite ?_ ?_)
   | (with_reducible refine LeO.bind ?_ (fun _ => ?_))
   | exact ih0 _ _ _
   | exact LeO.none _
   | refine LeO.ite ?_ ?_
   | refine LeO.bind ?_ (fun _ => ?_)
theorem keystoneref4_Place.mono : ∀ a0 a1 k, LeO (keystoneref4_Place.f k a0 a1) (keystoneref4_Place.f (k + 1) a0 a1) := by
 intro a0 a1 k
 have ih0 := keystoneref4_Place.mono_l k
 unfold keystoneref4_Place.f
 repeat' first
  | (with_reducible exact ih0 _ _ _)
  | (with_reducible exact LeO.refl _)
  | (with_reducible exact LeO.none _)
  | (with_reducible refine LeO.ite ?_ ?_)
  | (with_reducible refine LeO.bind ?_ (fun _ => ?_))
  | exact ih0 _ _ _
  | exact LeO.none _
  | refine LeO.ite ?_ ?_
  | refine LeO.bind ?_ (fun _ => ?_)
set_option maxHeartbeats 8000000 in
set_option maxRecDepth 100000 in
theorem keystoneref4_Place.calls (k : Nat) (A0 : Option Addr) (c0 : Nat) (l0 : List (S77)) (a1 : Int) (r : Int) (w : World) (hr0 : Kd.C k77 w A0 l0.length l0) (hc0 : l0.length ≤ c0) (h : keystoneref4_Place.f k l0 a1 = some r) :
 Calls Tryd.prog 69 #[.slice A0 l0.length c0, .int .i64 a1] w fun e w' => e = .returned (.int .i64 r) ∧ Drawn0 w w' := by
 have HR0 := Aside0.mk hr0
 have HC0 := Aside0.mk hc0
 clear hr0 hc0
 have H : (keystoneref4_Place.l0 k l0 a1 0) = some r := h
 clear h
 have H' := Aside0.mk H
 clear H
 go_enter Tryd.func69, Tryd.ntmps69
 go_wp2
 go_loopg [5] k (fun kq v5 w' => ∃ (x5_1 : Int), v5 = .int .i64 x5_1 ∧ Aside0 (keystoneref4_Place.l0 kq l0 a1 x5_1 = some r) ∧ Aside0 (kq ≤ k) ∧ Drawn0 w w')
 case atStart => exact ⟨(0), R_, H', ⟨Nat.le_refl _⟩, by repeat (first | exact Drawn0.refl _ | apply Drawn0.step)⟩
 case round =>
  clear H'
  obtain ⟨x5_1, rfl, HA, HK1, ⟨m1, rfl⟩⟩ := hrel
  cases gk with
  | zero => exact absurd HA.out (by simp [keystoneref4_Place.l0])
  | succ k1 =>
   have H := HA.out
   clear HA
   simp only [keystoneref4_Place.l0] at H
   by_cases c3 : x5_1 < (l0.length : Int)
   ·
    rw [if_pos c3] at H
    have c3b0 : decide (x5_1 < (l0.length : Int)) = true := decide_eq_true c3
    clear c3
    by_cases c4 : 0 ≤ x5_1
    ·
     rw [if_pos c4] at H
     have c4b0 : decide (0 ≤ x5_1) = true := decide_eq_true c4
     clear c4
     by_cases c5 : ((rd_T77 l0 x5_1).f0) = a1
     ·
      rw [if_pos c5] at H
      have c5b0 : (((rd_T77 l0 x5_1).f0) == a1) = true := beq_iff_eq.mpr c5
      have c5b1 : (((rd_T77 l0 x5_1).f0) != a1) = false := bne_eq_false_iff_eq.mpr c5
      clear c5
      obtain rfl := Option.some.inj H
      have p631 : 0 ≤ (x5_1 : Int) := of_decide_eq_true A_
      have q631 : x5_1 < (l0.length : Int) := of_decide_eq_true A_
      obtain ⟨ad631, e631, hx631_0, hx631_1, hx631_2, hx631_3⟩ := at_T77 HR0.out x5_1 p631 q631
      cases e631
      replace p631 := eq_true p631
      replace q631 := eq_true q631
      go_wp2
      go_ret
      exact ⟨by first | rfl | (simp; done) | (simp [*]; done) | (simp [wrap64]; done), by repeat (first | exact Drawn0.refl _ | apply Drawn0.step)⟩
     ·
      rw [if_neg c5] at H
      have c5b0 : (((rd_T77 l0 x5_1).f0) == a1) = false := beq_eq_false_iff_ne.mpr c5
      have c5b1 : (((rd_T77 l0 x5_1).f0) != a1) = true := bne_iff_ne.mpr c5
      have H' := Aside0.mk H
      clear H
      have p631 : 0 ≤ (x5_1 : Int) := of_decide_eq_true A_
      have q631 : x5_1 < (l0.length : Int) := of_decide_eq_true A_
      obtain ⟨ad631, e631, hx631_0, hx631_1, hx631_2, hx631_3⟩ := at_T77 HR0.out x5_1 p631 q631
      cases e631
      replace p631 := eq_true p631
      replace q631 := eq_true q631
      go_wp2
      go_roundg k1
      case measure => have := HK1.out; omega
      case rel => exact ⟨(wrap64 (x5_1 + 1)), R_, H', ⟨by have := HK1.out; omega⟩, by repeat (first | exact Drawn0.refl _ | apply Drawn0.step)⟩
    ·
     rw [if_neg c4] at H
     exact absurd H (by simp)
   ·
    rw [if_neg c3] at H
    have c3b0 : decide (x5_1 < (l0.length : Int)) = false := decide_eq_false c3
    clear c3
    obtain rfl := Option.some.inj H
    go_wp2
    go_ret
    exact ⟨by first | rfl | (simp; done) | (simp [*]; done) | (simp [wrap64]; done), by repeat (first | exact Drawn0.refl _ | apply Drawn0.step)⟩
def keystoneref2_Number.f (a0_0 : Int) (a0_1 : ByteArray) : Option (Bool) := if a0_0 = 0 then (some (a0_1.toList == ([] : List UInt8))) else (some false)
set_option maxHeartbeats 8000000 in
set_option maxRecDepth 100000 in
theorem keystoneref2_Number.calls (a0_0 : Int) (a0_1 : ByteArray) (r : Bool) (w : World) (h : keystoneref2_Number.f a0_0 a0_1 = some r) :
 Calls Tryd.prog 102 #[.agg #[.int .i64 a0_0, .string a0_1]] w fun e w' => e = .returned (.bool r) ∧ Below w.heap.size w w' := by
 have hu34 := Tryd.underlying34
 have HB := Aside0.mk (Below.refl w.heap.size w)
 have H : (if a0_0 = 0 then (some (a0_1.toList == ([] : List UInt8))) else (some false)) = some r := h
 clear h
 by_cases c2 : a0_0 = 0
 ·
  rw [if_pos c2] at H
  have c2b0 : (a0_0 == 0) = true := beq_iff_eq.mpr c2
  have c2b1 : (a0_0 != 0) = false := bne_eq_false_iff_eq.mpr c2
  clear c2
  obtain rfl := Option.some.inj H
  go_enter Tryd.func102, Tryd.ntmps102
  go_wp2_with (first | ((with_reducible refine d_ 1 ?_); refine X_ 1 #[.int .i64 a0_0, .string a0_1] 34 ?_; intro gb632 hg w3 hbox hb; have BK632 := Aside0.mk hbox; have GW632 := Aside0.mk (s_ hg); have GE632 := GW632; have HB := bs_ hb; clear hb hbox hg; obtain ⟨hcz4_0, hcz4_1, hfz4_0, hfz4_1⟩ := c2_ BK632.out))
  go_ret
  exact ⟨E_, B_⟩
 ·
  rw [if_neg c2] at H
  have c2b0 : (a0_0 == 0) = false := beq_eq_false_iff_ne.mpr c2
  have c2b1 : (a0_0 != 0) = true := bne_iff_ne.mpr c2
  obtain rfl := Option.some.inj H
  go_enter Tryd.func102, Tryd.ntmps102
  go_wp2_with (first | ((with_reducible refine d_ 1 ?_); refine X_ 1 #[.int .i64 a0_0, .string a0_1] 34 ?_; intro gb632 hg w5 hbox hb; have BK632 := Aside0.mk hbox; have GW632 := Aside0.mk (s_ hg); have GE632 := GW632; have HB := bs_ hb; clear hb hbox hg; obtain ⟨hcz6_0, hcz6_1, hfz6_0, hfz6_1⟩ := c2_ BK632.out))
  go_ret
  exact ⟨E_, B_⟩
end Go.Proofs.YtldejfkplnejjaaDoor.P
