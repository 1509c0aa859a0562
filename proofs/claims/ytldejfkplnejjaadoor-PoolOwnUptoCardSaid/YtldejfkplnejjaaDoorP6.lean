-- Written by my program xprint.py (a patched run of the kit's print). Lean checks it.
import Derived.Test.YtldejfkplnejjaaDoorP0
import Derived.Test.YtldejfkplnejjaaDoorExt
import Derived.Test.YtldejfkplnejjaaDoorShort
import Derived.Test.YtldejfkplnejjaaDoorShort2
namespace Go.Proofs.YtldejfkplnejjaaDoor.P
open Go.RowKit Go.Proofs.YtldejfkplnejjaaDoorW.PrintWords Go.Proofs.YtldejfkplnejjaaDoorW.PrintLast Go.Proofs.YtldejfkplnejjaaDoorW.PrintMore
attribute [local go_sem] max2_int min2_int max_two min_two max_three min_three max_four min_four   -- for this text's walks alone
set_option linter.unusedVariables false
set_option linter.unusedSimpArgs false
def keystoneref3_is.f (l0 : List (S50)) (a1 : Int) (a2 : Int) : Option (Bool) := if a1 ≥ 0 then (if a1 < (l0.length : Int) then (if 0 ≤ a1 then (some (((rd_T50 l0 a1).f0) == a2)) else (none)) else (some false)) else (some false)
set_option maxHeartbeats 8000000 in
set_option maxRecDepth 100000 in
theorem keystoneref3_is.calls (A0 : Option Addr) (c0 : Nat) (l0 : List (S50)) (a1 : Int) (a2 : Int) (r : Bool) (w : World) (hr0 : Kd.C k50 w A0 l0.length l0) (hc0 : l0.length ≤ c0) (h : keystoneref3_is.f l0 a1 a2 = some r) :
    Calls Tryd.prog 79 #[.slice A0 l0.length c0, .int .i64 a1, .int .i64 a2] w fun e w' => e = .returned (.bool r) ∧ Drawn0 w w' := by
  have HR0 := Aside0.mk hr0
  have HC0 := Aside0.mk hc0
  clear hr0 hc0
  have H : (if a1 ≥ 0 then (if a1 < (l0.length : Int) then (if 0 ≤ a1 then (some (((rd_T50 l0 a1).f0) == a2)) else (none)) else (some false)) else (some false)) = some r := h
  clear h
  by_cases c4 : a1 ≥ 0
  · rw [if_pos c4] at H
    have c4b0 : decide (0 ≤ a1) = true := decide_eq_true c4
    clear c4
    by_cases c5 : a1 < (l0.length : Int)
    · rw [if_pos c5] at H
      have c5b0 : decide (a1 < (l0.length : Int)) = true := decide_eq_true c5
      clear c5
      by_cases c6 : 0 ≤ a1
      · rw [if_pos c6] at H
        have c6b0 : decide (0 ≤ a1) = true := decide_eq_true c6
        clear c6
        obtain rfl := Option.some.inj H
        have p160 : 0 ≤ (a1 : Int) := of_decide_eq_true A_
        have q160 : a1 < (l0.length : Int) := of_decide_eq_true A_
        obtain ⟨ad160, e160, hx160_0, hx160_1, hx160_2, hx160_3, hx160_4, hx160_5⟩ := at_T50 HR0.out a1 p160 q160
        cases e160
        replace p160 := eq_true p160
        replace q160 := eq_true q160
        go_enter Tryd.func79, Tryd.ntmps79
        go_wp2
        go_ret
        exact ⟨by first | rfl | (simp; done) | (simp [*]; done) | (simp [wrap64]; done), by repeat (first | exact Drawn0.refl _ | apply Drawn0.step)⟩
      · rw [if_neg c6] at H
        exact absurd H (by simp)
    · rw [if_neg c5] at H
      have c5b0 : decide (a1 < (l0.length : Int)) = false := decide_eq_false c5
      clear c5
      obtain rfl := Option.some.inj H
      go_enter Tryd.func79, Tryd.ntmps79
      go_wp2
      go_ret
      exact ⟨by first | rfl | (simp; done) | (simp [*]; done) | (simp [wrap64]; done), by repeat (first | exact Drawn0.refl _ | apply Drawn0.step)⟩
  · rw [if_neg c4] at H
    have c4b0 : decide (0 ≤ a1) = false := decide_eq_false c4
    clear c4
    obtain rfl := Option.some.inj H
    go_enter Tryd.func79, Tryd.ntmps79
    go_wp2
    go_ret
    exact ⟨by first | rfl | (simp; done) | (simp [*]; done) | (simp [wrap64]; done), by repeat (first | exact Drawn0.refl _ | apply Drawn0.step)⟩
mutual
def keystoneref2_Name.j0 : Nat → ByteArray → Bool → Option (Bool)
  | 0, _, _ => none
  | k + 1, x0, x12 => if x12 = true then (some false) else (keystoneref2_Name.l0 k x0 0)
def keystoneref2_Name.l0 : Nat → ByteArray → Int → Option (Bool)
  | 0, _, _ => none
  | k + 1, x0, x3 => if x3 < (x0.size : Int) then (if 0 ≤ x3 then (if (bt x0 x3) ≥ 65 then (if (bt x0 x3) ≤ 90 then (keystoneref2_Name.l0 k x0 (wrap64 (x3 + 1))) else (if (bt x0 x3) ≥ 97 then (if (bt x0 x3) ≤ 122 then (keystoneref2_Name.l0 k x0 (wrap64 (x3 + 1))) else (if (bt x0 x3) = 95 then (keystoneref2_Name.l0 k x0 (wrap64 (x3 + 1))) else (if (bt x0 x3) ≥ 48 then (if (bt x0 x3) ≤ 57 then (if x3 > 0 then (keystoneref2_Name.l0 k x0 (wrap64 (x3 + 1))) else (some false)) else (some false)) else (some false)))) else (if (bt x0 x3) = 95 then (keystoneref2_Name.l0 k x0 (wrap64 (x3 + 1))) else (if (bt x0 x3) ≥ 48 then (if (bt x0 x3) ≤ 57 then (if x3 > 0 then (keystoneref2_Name.l0 k x0 (wrap64 (x3 + 1))) else (some false)) else (some false)) else (some false))))) else (if (bt x0 x3) ≥ 97 then (if (bt x0 x3) ≤ 122 then (keystoneref2_Name.l0 k x0 (wrap64 (x3 + 1))) else (if (bt x0 x3) = 95 then (keystoneref2_Name.l0 k x0 (wrap64 (x3 + 1))) else (if (bt x0 x3) ≥ 48 then (if (bt x0 x3) ≤ 57 then (if x3 > 0 then (keystoneref2_Name.l0 k x0 (wrap64 (x3 + 1))) else (some false)) else (some false)) else (some false)))) else (if (bt x0 x3) = 95 then (keystoneref2_Name.l0 k x0 (wrap64 (x3 + 1))) else (if (bt x0 x3) ≥ 48 then (if (bt x0 x3) ≤ 57 then (if x3 > 0 then (keystoneref2_Name.l0 k x0 (wrap64 (x3 + 1))) else (some false)) else (some false)) else (some false))))) else (none)) else (some true)
end
def keystoneref2_Name.f (k : Nat) (a0 : ByteArray) : Option (Bool) := if (a0.size : Int) < 1 then (keystoneref2_Name.j0 k a0 true) else (keystoneref2_Name.j0 k a0 (decide ((a0.size : Int) > 32)))
theorem keystoneref2_Name.mono_l : ∀ k, (∀ y0 y1, LeO (keystoneref2_Name.j0 k y0 y1) (keystoneref2_Name.j0 (k + 1) y0 y1)) ∧ (∀ y0 y1, LeO (keystoneref2_Name.l0 k y0 y1) (keystoneref2_Name.l0 (k + 1) y0 y1))
  | 0 => ⟨fun _ _ r h => by simp [keystoneref2_Name.j0] at h, fun _ _ r h => by simp [keystoneref2_Name.l0] at h⟩
  | k + 1 => by
    obtain ⟨ih0, ih1⟩ := keystoneref2_Name.mono_l k
    refine ⟨?_, ?_⟩
    · intro y0 y1
      unfold keystoneref2_Name.j0
      repeat' first
      | (with_reducible exact ih0 _ _)
      | (with_reducible exact ih1 _ _)
      | (with_reducible exact LeO.refl _)
      | (with_reducible exact LeO.none _)
      | (with_reducible refine LeO.ite ?_ ?_)
      | (with_reducible refine LeO.bind ?_ (fun _ => ?_))
      | exact ih0 _ _
      | exact ih1 _ _
      | exact LeO.none _
      | refine LeO.ite ?_ ?_
      | refine LeO.bind ?_ (fun _ => ?_)
    · intro y0 y1
      unfold keystoneref2_Name.l0
      repeat' first
      | (with_reducible exact ih0 _ _)
      | (with_reducible exact ih1 _ _)
      | (with_reducible exact LeO.refl _)
      | (with_reducible exact LeO.none _)
      | (with_reducible refine LeO.ite ?_ ?_)
      | (with_reducible refine LeO.bind ?_ (fun _ => ?_))
      | exact ih0 _ _
      | exact ih1 _ _
      | exact LeO.none _
      | refine LeO.ite ?_ ?_
      | refine LeO.bind ?_ (fun _ => ?_)
theorem keystoneref2_Name.mono : ∀ a0 k, LeO (keystoneref2_Name.f k a0) (keystoneref2_Name.f (k + 1) a0) := by
  intro a0 k
  obtain ⟨ih0, ih1⟩ := keystoneref2_Name.mono_l k
  unfold keystoneref2_Name.f
  repeat' first
      | (with_reducible exact ih0 _ _)
      | (with_reducible exact ih1 _ _)
      | (with_reducible exact LeO.refl _)
      | (with_reducible exact LeO.none _)
      | (with_reducible refine LeO.ite ?_ ?_)
      | (with_reducible refine LeO.bind ?_ (fun _ => ?_))
      | exact ih0 _ _
      | exact ih1 _ _
      | exact LeO.none _
      | refine LeO.ite ?_ ?_
      | refine LeO.bind ?_ (fun _ => ?_)
set_option maxHeartbeats 8000000 in
set_option maxRecDepth 100000 in
theorem keystoneref2_Name.calls (k : Nat) (a0 : ByteArray) (r : Bool) (w : World) (h : keystoneref2_Name.f k a0 = some r) :
    Calls Tryd.prog 91 #[.string a0] w fun e w' => e = .returned (.bool r) ∧ Drawn0 w w' := by
  have H : (if (a0.size : Int) < 1 then (keystoneref2_Name.j0 k a0 true) else (keystoneref2_Name.j0 k a0 (decide ((a0.size : Int) > 32)))) = some r := h
  clear h
  have HC2 := Aside0.mk H
  clear H
  go_enter Tryd.func91, Tryd.ntmps91
  go_upto_region 1 with (fail)
  go_cut [12] (fun v12 wc => ∃ (kq : Nat) (x12_1 : Bool), v12 = .bool x12_1 ∧ Aside0 (keystoneref2_Name.j0 kq a0 x12_1 = some r) ∧ Aside0 (kq ≤ k) ∧ Drawn0 w wc)
  case first =>
    have H := HC2.out
    clear HC2
    by_cases c3 : (a0.size : Int) < 1
    · rw [if_pos c3] at H
      have c3b0 : decide ((a0.size : Int) < 1) = true := decide_eq_true c3
      have c3b1 : decide (a0.size < 1) = true := decide_eq_true (by omega)
      clear c3
      (first | rw [c3b0] | (simp only [i64_w, i32_w]; rw [c3b0]) | skip)
      have H' := Aside0.mk H
      clear H
      go_wp2
      go_meet
      case rel => exact ⟨_, (true), R_, H', ⟨by first | omega | exact Nat.le_refl _⟩, by repeat (first | exact Drawn0.refl _ | apply Drawn0.step)⟩
    · rw [if_neg c3] at H
      have c3b0 : decide ((a0.size : Int) < 1) = false := decide_eq_false c3
      have c3b1 : decide (a0.size < 1) = false := decide_eq_false (by omega)
      clear c3
      (first | rw [c3b0] | (simp only [i64_w, i32_w]; rw [c3b0]) | skip)
      have H' := Aside0.mk H
      clear H
      go_wp2
      go_meet
      case rel => exact ⟨_, (decide ((a0.size : Int) > 32)), R_, H', ⟨by first | omega | exact Nat.le_refl _⟩, by repeat (first | exact Drawn0.refl _ | apply Drawn0.step)⟩
  case rest =>
    clear HC2
    try clear p2
    try clear c3
    try clear c3b0
    try clear c3b1
    obtain ⟨kq, x12_1, rfl, HA, HJ1, ⟨mc1, rfl⟩⟩ := hcut
    cases kq with
    | zero => exact absurd HA.out (by simp [keystoneref2_Name.j0])
    | succ kj1 =>
      have H := HA.out
      clear HA
      simp only [keystoneref2_Name.j0] at H
      by_cases c4 : x12_1 = true
      · subst c4
        have H1 : (some false) = some r := by rw [if_pos rfl] at H; exact H
        clear H
        have H := H1
        clear H1
        obtain rfl := Option.some.inj H
        go_wp2
        go_ret
        exact ⟨by first | rfl | (simp; done) | (simp [*]; done) | (simp [wrap64]; done), by repeat (first | exact Drawn0.refl _ | apply Drawn0.step)⟩
      · replace c4 := Bool.eq_false_iff.mpr c4
        subst c4
        have H1 : (keystoneref2_Name.l0 kj1 a0 0) = some r := by rw [if_neg (show ¬ (false = true) by decide)] at H; exact H
        clear H
        have H := H1
        clear H1
        have H' := Aside0.mk H
        clear H
        go_wp2
        go_loopg [3] kj1 (fun kq v3 w' => ∃ (x3_2 : Int), v3 = .int .i64 x3_2 ∧ Aside0 (keystoneref2_Name.l0 kq a0 x3_2 = some r) ∧ Aside0 (kq ≤ kj1) ∧ Drawn0 w w')
        case atStart => exact ⟨(0), R_, H', ⟨Nat.le_refl _⟩, by repeat (first | exact Drawn0.refl _ | apply Drawn0.step)⟩
        case round =>
          clear H'
          try clear c1
          try clear p2
          try clear c3
          try clear c3b0
          try clear c3b1
          try clear c4
          try clear p2
          obtain ⟨x3_2, rfl, HA, HK2, ⟨m2, rfl⟩⟩ := hrel
          cases gk with
          | zero => exact absurd HA.out (by simp [keystoneref2_Name.l0])
          | succ k2 =>
            have H := HA.out
            clear HA
            simp only [keystoneref2_Name.l0] at H
            by_cases c5 : x3_2 < (a0.size : Int)
            · rw [if_pos c5] at H
              have c5b0 : decide (x3_2 < (a0.size : Int)) = true := decide_eq_true c5
              clear c5
              by_cases c6 : 0 ≤ x3_2
              · rw [if_pos c6] at H
                have c6b0 : decide (0 ≤ x3_2) = true := decide_eq_true c6
                clear c6
                by_cases c8 : (bt a0 x3_2) ≥ 65
                · rw [if_pos c8] at H
                  have c8b0 : decide (65 ≤ (bt a0 x3_2)) = true := decide_eq_true c8
                  clear c8
                  by_cases c9 : (bt a0 x3_2) ≤ 90
                  · rw [if_pos c9] at H
                    have c9b0 : decide ((bt a0 x3_2) ≤ 90) = true := decide_eq_true c9
                    clear c9
                    have H' := Aside0.mk H
                    clear H
                    have p7 : 0 ≤ (x3_2 : Int) := of_decide_eq_true A_
                    have q7 : x3_2 < (a0.size : Int) := of_decide_eq_true A_
                    have hx7 := bt_at a0 x3_2
                    replace p7 := eq_true p7
                    replace q7 := eq_true q7
                    go_wp2
                    go_roundg k2
                    case measure => have := HJ1.out; have := HK2.out; omega
                    case rel => exact ⟨(wrap64 (x3_2 + 1)), R_, H', ⟨by have := HJ1.out; have := HK2.out; omega⟩, by repeat (first | exact Drawn0.refl _ | apply Drawn0.step)⟩
                  · rw [if_neg c9] at H
                    have c9b0 : decide ((bt a0 x3_2) ≤ 90) = false := decide_eq_false c9
                    clear c9
                    by_cases c10 : (bt a0 x3_2) ≥ 97
                    · rw [if_pos c10] at H
                      have c10b0 : decide (97 ≤ (bt a0 x3_2)) = true := decide_eq_true c10
                      clear c10
                      by_cases c11 : (bt a0 x3_2) ≤ 122
                      · rw [if_pos c11] at H
                        have c11b0 : decide ((bt a0 x3_2) ≤ 122) = true := decide_eq_true c11
                        clear c11
                        have H' := Aside0.mk H
                        clear H
                        have p7 : 0 ≤ (x3_2 : Int) := of_decide_eq_true A_
                        have q7 : x3_2 < (a0.size : Int) := of_decide_eq_true A_
                        have hx7 := bt_at a0 x3_2
                        replace p7 := eq_true p7
                        replace q7 := eq_true q7
                        go_wp2
                        go_roundg k2
                        case measure => have := HJ1.out; have := HK2.out; omega
                        case rel => exact ⟨(wrap64 (x3_2 + 1)), R_, H', ⟨by have := HJ1.out; have := HK2.out; omega⟩, by repeat (first | exact Drawn0.refl _ | apply Drawn0.step)⟩
                      · rw [if_neg c11] at H
                        have c11b0 : decide ((bt a0 x3_2) ≤ 122) = false := decide_eq_false c11
                        clear c11
                        by_cases c12 : (bt a0 x3_2) = 95
                        · rw [if_pos c12] at H
                          have c12b0 : ((bt a0 x3_2) == 95) = true := beq_iff_eq.mpr c12
                          have c12b1 : ((bt a0 x3_2) != 95) = false := bne_eq_false_iff_eq.mpr c12
                          clear c12
                          have H' := Aside0.mk H
                          clear H
                          have p7 : 0 ≤ (x3_2 : Int) := of_decide_eq_true A_
                          have q7 : x3_2 < (a0.size : Int) := of_decide_eq_true A_
                          have hx7 := bt_at a0 x3_2
                          replace p7 := eq_true p7
                          replace q7 := eq_true q7
                          go_wp2
                          go_roundg k2
                          case measure => have := HJ1.out; have := HK2.out; omega
                          case rel => exact ⟨(wrap64 (x3_2 + 1)), R_, H', ⟨by have := HJ1.out; have := HK2.out; omega⟩, by repeat (first | exact Drawn0.refl _ | apply Drawn0.step)⟩
                        · rw [if_neg c12] at H
                          have c12b0 : ((bt a0 x3_2) == 95) = false := beq_eq_false_iff_ne.mpr c12
                          have c12b1 : ((bt a0 x3_2) != 95) = true := bne_iff_ne.mpr c12
                          by_cases c13 : (bt a0 x3_2) ≥ 48
                          · rw [if_pos c13] at H
                            have c13b0 : decide (48 ≤ (bt a0 x3_2)) = true := decide_eq_true c13
                            clear c13
                            by_cases c14 : (bt a0 x3_2) ≤ 57
                            · rw [if_pos c14] at H
                              have c14b0 : decide ((bt a0 x3_2) ≤ 57) = true := decide_eq_true c14
                              clear c14
                              by_cases c15 : x3_2 > 0
                              · rw [if_pos c15] at H
                                have c15b0 : decide (0 < x3_2) = true := decide_eq_true c15
                                clear c15
                                have H' := Aside0.mk H
                                clear H
                                have p7 : 0 ≤ (x3_2 : Int) := of_decide_eq_true A_
                                have q7 : x3_2 < (a0.size : Int) := of_decide_eq_true A_
                                have hx7 := bt_at a0 x3_2
                                replace p7 := eq_true p7
                                replace q7 := eq_true q7
                                go_wp2
                                go_roundg k2
                                case measure => have := HJ1.out; have := HK2.out; omega
                                case rel => exact ⟨(wrap64 (x3_2 + 1)), R_, H', ⟨by have := HJ1.out; have := HK2.out; omega⟩, by repeat (first | exact Drawn0.refl _ | apply Drawn0.step)⟩
                              · rw [if_neg c15] at H
                                have c15b0 : decide (0 < x3_2) = false := decide_eq_false c15
                                clear c15
                                obtain rfl := Option.some.inj H
                                have p7 : 0 ≤ (x3_2 : Int) := of_decide_eq_true A_
                                have q7 : x3_2 < (a0.size : Int) := of_decide_eq_true A_
                                have hx7 := bt_at a0 x3_2
                                replace p7 := eq_true p7
                                replace q7 := eq_true q7
                                go_wp2
                                go_ret
                                exact ⟨by first | rfl | (simp; done) | (simp [*]; done) | (simp [wrap64]; done), by repeat (first | exact Drawn0.refl _ | apply Drawn0.step)⟩
                            · rw [if_neg c14] at H
                              have c14b0 : decide ((bt a0 x3_2) ≤ 57) = false := decide_eq_false c14
                              clear c14
                              obtain rfl := Option.some.inj H
                              have p7 : 0 ≤ (x3_2 : Int) := of_decide_eq_true A_
                              have q7 : x3_2 < (a0.size : Int) := of_decide_eq_true A_
                              have hx7 := bt_at a0 x3_2
                              replace p7 := eq_true p7
                              replace q7 := eq_true q7
                              go_wp2
                              go_ret
                              exact ⟨by first | rfl | (simp; done) | (simp [*]; done) | (simp [wrap64]; done), by repeat (first | exact Drawn0.refl _ | apply Drawn0.step)⟩
                          · rw [if_neg c13] at H
                            have c13b0 : decide (48 ≤ (bt a0 x3_2)) = false := decide_eq_false c13
                            clear c13
                            obtain rfl := Option.some.inj H
                            have p7 : 0 ≤ (x3_2 : Int) := of_decide_eq_true A_
                            have q7 : x3_2 < (a0.size : Int) := of_decide_eq_true A_
                            have hx7 := bt_at a0 x3_2
                            replace p7 := eq_true p7
                            replace q7 := eq_true q7
                            go_wp2
                            go_ret
                            exact ⟨by first | rfl | (simp; done) | (simp [*]; done) | (simp [wrap64]; done), by repeat (first | exact Drawn0.refl _ | apply Drawn0.step)⟩
                    · rw [if_neg c10] at H
                      have c10b0 : decide (97 ≤ (bt a0 x3_2)) = false := decide_eq_false c10
                      clear c10
                      by_cases c16 : (bt a0 x3_2) = 95
                      · rw [if_pos c16] at H
                        have c16b0 : ((bt a0 x3_2) == 95) = true := beq_iff_eq.mpr c16
                        have c16b1 : ((bt a0 x3_2) != 95) = false := bne_eq_false_iff_eq.mpr c16
                        clear c16
                        have H' := Aside0.mk H
                        clear H
                        have p7 : 0 ≤ (x3_2 : Int) := of_decide_eq_true A_
                        have q7 : x3_2 < (a0.size : Int) := of_decide_eq_true A_
                        have hx7 := bt_at a0 x3_2
                        replace p7 := eq_true p7
                        replace q7 := eq_true q7
                        go_wp2
                        go_roundg k2
                        case measure => have := HJ1.out; have := HK2.out; omega
                        case rel => exact ⟨(wrap64 (x3_2 + 1)), R_, H', ⟨by have := HJ1.out; have := HK2.out; omega⟩, by repeat (first | exact Drawn0.refl _ | apply Drawn0.step)⟩
                      · rw [if_neg c16] at H
                        have c16b0 : ((bt a0 x3_2) == 95) = false := beq_eq_false_iff_ne.mpr c16
                        have c16b1 : ((bt a0 x3_2) != 95) = true := bne_iff_ne.mpr c16
                        by_cases c17 : (bt a0 x3_2) ≥ 48
                        · rw [if_pos c17] at H
                          have c17b0 : decide (48 ≤ (bt a0 x3_2)) = true := decide_eq_true c17
                          clear c17
                          by_cases c18 : (bt a0 x3_2) ≤ 57
                          · rw [if_pos c18] at H
                            have c18b0 : decide ((bt a0 x3_2) ≤ 57) = true := decide_eq_true c18
                            clear c18
                            by_cases c19 : x3_2 > 0
                            · rw [if_pos c19] at H
                              have c19b0 : decide (0 < x3_2) = true := decide_eq_true c19
                              clear c19
                              have H' := Aside0.mk H
                              clear H
                              have p7 : 0 ≤ (x3_2 : Int) := of_decide_eq_true A_
                              have q7 : x3_2 < (a0.size : Int) := of_decide_eq_true A_
                              have hx7 := bt_at a0 x3_2
                              replace p7 := eq_true p7
                              replace q7 := eq_true q7
                              go_wp2
                              go_roundg k2
                              case measure => have := HJ1.out; have := HK2.out; omega
                              case rel => exact ⟨(wrap64 (x3_2 + 1)), R_, H', ⟨by have := HJ1.out; have := HK2.out; omega⟩, by repeat (first | exact Drawn0.refl _ | apply Drawn0.step)⟩
                            · rw [if_neg c19] at H
                              have c19b0 : decide (0 < x3_2) = false := decide_eq_false c19
                              clear c19
                              obtain rfl := Option.some.inj H
                              have p7 : 0 ≤ (x3_2 : Int) := of_decide_eq_true A_
                              have q7 : x3_2 < (a0.size : Int) := of_decide_eq_true A_
                              have hx7 := bt_at a0 x3_2
                              replace p7 := eq_true p7
                              replace q7 := eq_true q7
                              go_wp2
                              go_ret
                              exact ⟨by first | rfl | (simp; done) | (simp [*]; done) | (simp [wrap64]; done), by repeat (first | exact Drawn0.refl _ | apply Drawn0.step)⟩
                          · rw [if_neg c18] at H
                            have c18b0 : decide ((bt a0 x3_2) ≤ 57) = false := decide_eq_false c18
                            clear c18
                            obtain rfl := Option.some.inj H
                            have p7 : 0 ≤ (x3_2 : Int) := of_decide_eq_true A_
                            have q7 : x3_2 < (a0.size : Int) := of_decide_eq_true A_
                            have hx7 := bt_at a0 x3_2
                            replace p7 := eq_true p7
                            replace q7 := eq_true q7
                            go_wp2
                            go_ret
                            exact ⟨by first | rfl | (simp; done) | (simp [*]; done) | (simp [wrap64]; done), by repeat (first | exact Drawn0.refl _ | apply Drawn0.step)⟩
                        · rw [if_neg c17] at H
                          have c17b0 : decide (48 ≤ (bt a0 x3_2)) = false := decide_eq_false c17
                          clear c17
                          obtain rfl := Option.some.inj H
                          have p7 : 0 ≤ (x3_2 : Int) := of_decide_eq_true A_
                          have q7 : x3_2 < (a0.size : Int) := of_decide_eq_true A_
                          have hx7 := bt_at a0 x3_2
                          replace p7 := eq_true p7
                          replace q7 := eq_true q7
                          go_wp2
                          go_ret
                          exact ⟨by first | rfl | (simp; done) | (simp [*]; done) | (simp [wrap64]; done), by repeat (first | exact Drawn0.refl _ | apply Drawn0.step)⟩
                · rw [if_neg c8] at H
                  have c8b0 : decide (65 ≤ (bt a0 x3_2)) = false := decide_eq_false c8
                  clear c8
                  by_cases c20 : (bt a0 x3_2) ≥ 97
                  · rw [if_pos c20] at H
                    have c20b0 : decide (97 ≤ (bt a0 x3_2)) = true := decide_eq_true c20
                    clear c20
                    by_cases c21 : (bt a0 x3_2) ≤ 122
                    · rw [if_pos c21] at H
                      have c21b0 : decide ((bt a0 x3_2) ≤ 122) = true := decide_eq_true c21
                      clear c21
                      have H' := Aside0.mk H
                      clear H
                      have p7 : 0 ≤ (x3_2 : Int) := of_decide_eq_true A_
                      have q7 : x3_2 < (a0.size : Int) := of_decide_eq_true A_
                      have hx7 := bt_at a0 x3_2
                      replace p7 := eq_true p7
                      replace q7 := eq_true q7
                      go_wp2
                      go_roundg k2
                      case measure => have := HJ1.out; have := HK2.out; omega
                      case rel => exact ⟨(wrap64 (x3_2 + 1)), R_, H', ⟨by have := HJ1.out; have := HK2.out; omega⟩, by repeat (first | exact Drawn0.refl _ | apply Drawn0.step)⟩
                    · rw [if_neg c21] at H
                      have c21b0 : decide ((bt a0 x3_2) ≤ 122) = false := decide_eq_false c21
                      clear c21
                      by_cases c22 : (bt a0 x3_2) = 95
                      · rw [if_pos c22] at H
                        have c22b0 : ((bt a0 x3_2) == 95) = true := beq_iff_eq.mpr c22
                        have c22b1 : ((bt a0 x3_2) != 95) = false := bne_eq_false_iff_eq.mpr c22
                        clear c22
                        have H' := Aside0.mk H
                        clear H
                        have p7 : 0 ≤ (x3_2 : Int) := of_decide_eq_true A_
                        have q7 : x3_2 < (a0.size : Int) := of_decide_eq_true A_
                        have hx7 := bt_at a0 x3_2
                        replace p7 := eq_true p7
                        replace q7 := eq_true q7
                        go_wp2
                        go_roundg k2
                        case measure => have := HJ1.out; have := HK2.out; omega
                        case rel => exact ⟨(wrap64 (x3_2 + 1)), R_, H', ⟨by have := HJ1.out; have := HK2.out; omega⟩, by repeat (first | exact Drawn0.refl _ | apply Drawn0.step)⟩
                      · rw [if_neg c22] at H
                        have c22b0 : ((bt a0 x3_2) == 95) = false := beq_eq_false_iff_ne.mpr c22
                        have c22b1 : ((bt a0 x3_2) != 95) = true := bne_iff_ne.mpr c22
                        by_cases c23 : (bt a0 x3_2) ≥ 48
                        · rw [if_pos c23] at H
                          have c23b0 : decide (48 ≤ (bt a0 x3_2)) = true := decide_eq_true c23
                          clear c23
                          by_cases c24 : (bt a0 x3_2) ≤ 57
                          · rw [if_pos c24] at H
                            have c24b0 : decide ((bt a0 x3_2) ≤ 57) = true := decide_eq_true c24
                            clear c24
                            by_cases c25 : x3_2 > 0
                            · rw [if_pos c25] at H
                              have c25b0 : decide (0 < x3_2) = true := decide_eq_true c25
                              clear c25
                              have H' := Aside0.mk H
                              clear H
                              have p7 : 0 ≤ (x3_2 : Int) := of_decide_eq_true A_
                              have q7 : x3_2 < (a0.size : Int) := of_decide_eq_true A_
                              have hx7 := bt_at a0 x3_2
                              replace p7 := eq_true p7
                              replace q7 := eq_true q7
                              go_wp2
                              go_roundg k2
                              case measure => have := HJ1.out; have := HK2.out; omega
                              case rel => exact ⟨(wrap64 (x3_2 + 1)), R_, H', ⟨by have := HJ1.out; have := HK2.out; omega⟩, by repeat (first | exact Drawn0.refl _ | apply Drawn0.step)⟩
                            · rw [if_neg c25] at H
                              have c25b0 : decide (0 < x3_2) = false := decide_eq_false c25
                              clear c25
                              obtain rfl := Option.some.inj H
                              have p7 : 0 ≤ (x3_2 : Int) := of_decide_eq_true A_
                              have q7 : x3_2 < (a0.size : Int) := of_decide_eq_true A_
                              have hx7 := bt_at a0 x3_2
                              replace p7 := eq_true p7
                              replace q7 := eq_true q7
                              go_wp2
                              go_ret
                              exact ⟨by first | rfl | (simp; done) | (simp [*]; done) | (simp [wrap64]; done), by repeat (first | exact Drawn0.refl _ | apply Drawn0.step)⟩
                          · rw [if_neg c24] at H
                            have c24b0 : decide ((bt a0 x3_2) ≤ 57) = false := decide_eq_false c24
                            clear c24
                            obtain rfl := Option.some.inj H
                            have p7 : 0 ≤ (x3_2 : Int) := of_decide_eq_true A_
                            have q7 : x3_2 < (a0.size : Int) := of_decide_eq_true A_
                            have hx7 := bt_at a0 x3_2
                            replace p7 := eq_true p7
                            replace q7 := eq_true q7
                            go_wp2
                            go_ret
                            exact ⟨by first | rfl | (simp; done) | (simp [*]; done) | (simp [wrap64]; done), by repeat (first | exact Drawn0.refl _ | apply Drawn0.step)⟩
                        · rw [if_neg c23] at H
                          have c23b0 : decide (48 ≤ (bt a0 x3_2)) = false := decide_eq_false c23
                          clear c23
                          obtain rfl := Option.some.inj H
                          have p7 : 0 ≤ (x3_2 : Int) := of_decide_eq_true A_
                          have q7 : x3_2 < (a0.size : Int) := of_decide_eq_true A_
                          have hx7 := bt_at a0 x3_2
                          replace p7 := eq_true p7
                          replace q7 := eq_true q7
                          go_wp2
                          go_ret
                          exact ⟨by first | rfl | (simp; done) | (simp [*]; done) | (simp [wrap64]; done), by repeat (first | exact Drawn0.refl _ | apply Drawn0.step)⟩
                  · rw [if_neg c20] at H
                    have c20b0 : decide (97 ≤ (bt a0 x3_2)) = false := decide_eq_false c20
                    clear c20
                    by_cases c26 : (bt a0 x3_2) = 95
                    · rw [if_pos c26] at H
                      have c26b0 : ((bt a0 x3_2) == 95) = true := beq_iff_eq.mpr c26
                      have c26b1 : ((bt a0 x3_2) != 95) = false := bne_eq_false_iff_eq.mpr c26
                      clear c26
                      have H' := Aside0.mk H
                      clear H
                      have p7 : 0 ≤ (x3_2 : Int) := of_decide_eq_true A_
                      have q7 : x3_2 < (a0.size : Int) := of_decide_eq_true A_
                      have hx7 := bt_at a0 x3_2
                      replace p7 := eq_true p7
                      replace q7 := eq_true q7
                      go_wp2
                      go_roundg k2
                      case measure => have := HJ1.out; have := HK2.out; omega
                      case rel => exact ⟨(wrap64 (x3_2 + 1)), R_, H', ⟨by have := HJ1.out; have := HK2.out; omega⟩, by repeat (first | exact Drawn0.refl _ | apply Drawn0.step)⟩
                    · rw [if_neg c26] at H
                      have c26b0 : ((bt a0 x3_2) == 95) = false := beq_eq_false_iff_ne.mpr c26
                      have c26b1 : ((bt a0 x3_2) != 95) = true := bne_iff_ne.mpr c26
                      by_cases c27 : (bt a0 x3_2) ≥ 48
                      · rw [if_pos c27] at H
                        have c27b0 : decide (48 ≤ (bt a0 x3_2)) = true := decide_eq_true c27
                        clear c27
                        by_cases c28 : (bt a0 x3_2) ≤ 57
                        · rw [if_pos c28] at H
                          have c28b0 : decide ((bt a0 x3_2) ≤ 57) = true := decide_eq_true c28
                          clear c28
                          by_cases c29 : x3_2 > 0
                          · rw [if_pos c29] at H
                            have c29b0 : decide (0 < x3_2) = true := decide_eq_true c29
                            clear c29
                            have H' := Aside0.mk H
                            clear H
                            have p7 : 0 ≤ (x3_2 : Int) := of_decide_eq_true A_
                            have q7 : x3_2 < (a0.size : Int) := of_decide_eq_true A_
                            have hx7 := bt_at a0 x3_2
                            replace p7 := eq_true p7
                            replace q7 := eq_true q7
                            go_wp2
                            go_roundg k2
                            case measure => have := HJ1.out; have := HK2.out; omega
                            case rel => exact ⟨(wrap64 (x3_2 + 1)), R_, H', ⟨by have := HJ1.out; have := HK2.out; omega⟩, by repeat (first | exact Drawn0.refl _ | apply Drawn0.step)⟩
                          · rw [if_neg c29] at H
                            have c29b0 : decide (0 < x3_2) = false := decide_eq_false c29
                            clear c29
                            obtain rfl := Option.some.inj H
                            have p7 : 0 ≤ (x3_2 : Int) := of_decide_eq_true A_
                            have q7 : x3_2 < (a0.size : Int) := of_decide_eq_true A_
                            have hx7 := bt_at a0 x3_2
                            replace p7 := eq_true p7
                            replace q7 := eq_true q7
                            go_wp2
                            go_ret
                            exact ⟨by first | rfl | (simp; done) | (simp [*]; done) | (simp [wrap64]; done), by repeat (first | exact Drawn0.refl _ | apply Drawn0.step)⟩
                        · rw [if_neg c28] at H
                          have c28b0 : decide ((bt a0 x3_2) ≤ 57) = false := decide_eq_false c28
                          clear c28
                          obtain rfl := Option.some.inj H
                          have p7 : 0 ≤ (x3_2 : Int) := of_decide_eq_true A_
                          have q7 : x3_2 < (a0.size : Int) := of_decide_eq_true A_
                          have hx7 := bt_at a0 x3_2
                          replace p7 := eq_true p7
                          replace q7 := eq_true q7
                          go_wp2
                          go_ret
                          exact ⟨by first | rfl | (simp; done) | (simp [*]; done) | (simp [wrap64]; done), by repeat (first | exact Drawn0.refl _ | apply Drawn0.step)⟩
                      · rw [if_neg c27] at H
                        have c27b0 : decide (48 ≤ (bt a0 x3_2)) = false := decide_eq_false c27
                        clear c27
                        obtain rfl := Option.some.inj H
                        have p7 : 0 ≤ (x3_2 : Int) := of_decide_eq_true A_
                        have q7 : x3_2 < (a0.size : Int) := of_decide_eq_true A_
                        have hx7 := bt_at a0 x3_2
                        replace p7 := eq_true p7
                        replace q7 := eq_true q7
                        go_wp2
                        go_ret
                        exact ⟨by first | rfl | (simp; done) | (simp [*]; done) | (simp [wrap64]; done), by repeat (first | exact Drawn0.refl _ | apply Drawn0.step)⟩
              · rw [if_neg c6] at H
                exact absurd H (by simp)
            · rw [if_neg c5] at H
              have c5b0 : decide (x3_2 < (a0.size : Int)) = false := decide_eq_false c5
              clear c5
              obtain rfl := Option.some.inj H
              go_wp2
              go_ret
              exact ⟨by first | rfl | (simp; done) | (simp [*]; done) | (simp [wrap64]; done), by repeat (first | exact Drawn0.refl _ | apply Drawn0.step)⟩
mutual
def keystoneref2_one.j1 : Nat → ByteArray → Int → Int → ByteArray → Option (Int × ByteArray × Int)
  | 0, _, _, _, _ => none
  | k + 1, x0, x1, x163000, x163001 => if x163000 > 8 then (keystoneref2_one.j2 k x0 x1 true x163000 x163001) else (keystoneref2_one.j2 k x0 x1 (decide (x1 ≥ (x0.size : Int))) x163000 x163001)
def keystoneref2_one.j2 : Nat → ByteArray → Int → Bool → Int → ByteArray → Option (Int × ByteArray × Int)
  | 0, _, _, _, _, _ => none
  | k + 1, x0, x1, x32, x163000, x163001 => if x32 = true then (some (x163000, x163001, (-1))) else (if 0 ≤ x1 then (if x1 < (x0.size : Int) then (if (bt x0 x1) = 73 then (some (x163000, x163001, wrap64 (x1 + 1))) else (if (bt x0 x1) = 76 then (keystoneref2_one.l1 k x0 x1 (wrap64 (x1 + 1)) x163000 x163001) else (some (x163000, x163001, (-1))))) else (none)) else (none))
def keystoneref2_one.l1 : Nat → ByteArray → Int → Int → Int → ByteArray → Option (Int × ByteArray × Int)
  | 0, _, _, _, _, _ => none
  | k + 1, x0, x1, x7, x163000, x163001 => if x7 < (x0.size : Int) then (if 0 ≤ x7 then (if (bt x0 x7) = 59 then (if x7 ≥ (x0.size : Int) then (some (x163000, x163001, (-1))) else (if 0 ≤ (wrap64 (x1 + 1)) then (if (wrap64 (x1 + 1)) ≤ x7 then (if x7 ≤ (x0.size : Int) then ((keystoneref2_Name.f k (x0.extract ((wrap64 (x1 + 1)) : Int).toNat (x7 : Int).toNat)).bind fun t163 => (if t163 = true then (some (x163000, x0.extract ((wrap64 (x1 + 1)) : Int).toNat (x7 : Int).toNat, wrap64 (x7 + 1))) else (some (x163000, x163001, (-1))))) else (none)) else (none)) else (none))) else (keystoneref2_one.l1 k x0 x1 (wrap64 (x7 + 1)) x163000 x163001)) else (none)) else (if x7 ≥ (x0.size : Int) then (some (x163000, x163001, (-1))) else (if 0 ≤ (wrap64 (x1 + 1)) then (if (wrap64 (x1 + 1)) ≤ x7 then (if x7 ≤ (x0.size : Int) then ((keystoneref2_Name.f k (x0.extract ((wrap64 (x1 + 1)) : Int).toNat (x7 : Int).toNat)).bind fun t164 => (if t164 = true then (some (x163000, x0.extract ((wrap64 (x1 + 1)) : Int).toNat (x7 : Int).toNat, wrap64 (x7 + 1))) else (some (x163000, x163001, (-1))))) else (none)) else (none)) else (none)))
def keystoneref2_one.l0 : Nat → ByteArray → Int → Int → ByteArray → Option (Int × ByteArray × Int)
  | 0, _, _, _, _ => none
  | k + 1, x0, x1, x163000, x163001 => if x1 < (x0.size : Int) then (if 0 ≤ x1 then (if (bt x0 x1) = 91 then (keystoneref2_one.l0 k x0 (wrap64 (x1 + 1)) (wrap64 (x163000 + 1)) x163001) else (keystoneref2_one.j1 k x0 x1 x163000 x163001)) else (none)) else (keystoneref2_one.j1 k x0 x1 x163000 x163001)
end
def keystoneref2_one.f (k : Nat) (a0 : ByteArray) (a1 : Int) : Option (Int × ByteArray × Int) := keystoneref2_one.l0 k a0 a1 0 (⟨#[]⟩ : ByteArray)
theorem keystoneref2_one.mono_l : ∀ k, (∀ y0 y1 y2 y3, LeO (keystoneref2_one.j1 k y0 y1 y2 y3) (keystoneref2_one.j1 (k + 1) y0 y1 y2 y3)) ∧ (∀ y0 y1 y2 y3 y4, LeO (keystoneref2_one.j2 k y0 y1 y2 y3 y4) (keystoneref2_one.j2 (k + 1) y0 y1 y2 y3 y4)) ∧ (∀ y0 y1 y2 y3 y4, LeO (keystoneref2_one.l1 k y0 y1 y2 y3 y4) (keystoneref2_one.l1 (k + 1) y0 y1 y2 y3 y4)) ∧ (∀ y0 y1 y2 y3, LeO (keystoneref2_one.l0 k y0 y1 y2 y3) (keystoneref2_one.l0 (k + 1) y0 y1 y2 y3))
  | 0 => ⟨fun _ _ _ _ r h => by simp [keystoneref2_one.j1] at h, fun _ _ _ _ _ r h => by simp [keystoneref2_one.j2] at h, fun _ _ _ _ _ r h => by simp [keystoneref2_one.l1] at h, fun _ _ _ _ r h => by simp [keystoneref2_one.l0] at h⟩
  | k + 1 => by
    obtain ⟨ih0, ih1, ih2, ih3⟩ := keystoneref2_one.mono_l k
    refine ⟨?_, ?_, ?_, ?_⟩
    · intro y0 y1 y2 y3
      unfold keystoneref2_one.j1
      repeat' first
      | (with_reducible exact ih0 _ _ _ _)
      | (with_reducible exact ih1 _ _ _ _ _)
      | (with_reducible exact ih2 _ _ _ _ _)
      | (with_reducible exact ih3 _ _ _ _)
      | (with_reducible exact keystoneref2_Name.mono _ _)
      | (with_reducible exact LeO.refl _)
      | (with_reducible exact LeO.none _)
      | (with_reducible refine LeO.ite ?_ ?_)
      | (with_reducible refine LeO.bind ?_ (fun _ => ?_))
      | exact ih0 _ _ _ _
      | exact ih1 _ _ _ _ _
      | exact ih2 _ _ _ _ _
      | exact ih3 _ _ _ _
      | exact keystoneref2_Name.mono _ _
      | exact LeO.none _
      | refine LeO.ite ?_ ?_
      | refine LeO.bind ?_ (fun _ => ?_)
    · intro y0 y1 y2 y3 y4
      unfold keystoneref2_one.j2
      repeat' first
      | (with_reducible exact ih0 _ _ _ _)
      | (with_reducible exact ih1 _ _ _ _ _)
      | (with_reducible exact ih2 _ _ _ _ _)
      | (with_reducible exact ih3 _ _ _ _)
      | (with_reducible exact keystoneref2_Name.mono _ _)
      | (with_reducible exact LeO.refl _)
      | (with_reducible exact LeO.none _)
      | (with_reducible refine LeO.ite ?_ ?_)
      | (with_reducible refine LeO.bind ?_ (fun _ => ?_))
      | exact ih0 _ _ _ _
      | exact ih1 _ _ _ _ _
      | exact ih2 _ _ _ _ _
      | exact ih3 _ _ _ _
      | exact keystoneref2_Name.mono _ _
      | exact LeO.none _
      | refine LeO.ite ?_ ?_
      | refine LeO.bind ?_ (fun _ => ?_)
    · intro y0 y1 y2 y3 y4
      unfold keystoneref2_one.l1
      repeat' first
      | (with_reducible exact ih0 _ _ _ _)
      | (with_reducible exact ih1 _ _ _ _ _)
      | (with_reducible exact ih2 _ _ _ _ _)
      | (with_reducible exact ih3 _ _ _ _)
      | (with_reducible exact keystoneref2_Name.mono _ _)
      | (with_reducible exact LeO.refl _)
      | (with_reducible exact LeO.none _)
      | (with_reducible refine LeO.ite ?_ ?_)
      | (with_reducible refine LeO.bind ?_ (fun _ => ?_))
      | exact ih0 _ _ _ _
      | exact ih1 _ _ _ _ _
      | exact ih2 _ _ _ _ _
      | exact ih3 _ _ _ _
      | exact keystoneref2_Name.mono _ _
      | exact LeO.none _
      | refine LeO.ite ?_ ?_
      | refine LeO.bind ?_ (fun _ => ?_)
    · intro y0 y1 y2 y3
      unfold keystoneref2_one.l0
      repeat' first
      | (with_reducible exact ih0 _ _ _ _)
      | (with_reducible exact ih1 _ _ _ _ _)
      | (with_reducible exact ih2 _ _ _ _ _)
      | (with_reducible exact ih3 _ _ _ _)
      | (with_reducible exact keystoneref2_Name.mono _ _)
      | (with_reducible exact LeO.refl _)
      | (with_reducible exact LeO.none _)
      | (with_reducible refine LeO.ite ?_ ?_)
      | (with_reducible refine LeO.bind ?_ (fun _ => ?_))
      | exact ih0 _ _ _ _
      | exact ih1 _ _ _ _ _
      | exact ih2 _ _ _ _ _
      | exact ih3 _ _ _ _
      | exact keystoneref2_Name.mono _ _
      | exact LeO.none _
      | refine LeO.ite ?_ ?_
      | refine LeO.bind ?_ (fun _ => ?_)
theorem keystoneref2_one.mono : ∀ a0 a1 k, LeO (keystoneref2_one.f k a0 a1) (keystoneref2_one.f (k + 1) a0 a1) := by
  intro a0 a1 k
  obtain ⟨ih0, ih1, ih2, ih3⟩ := keystoneref2_one.mono_l k
  unfold keystoneref2_one.f
  repeat' first
      | (with_reducible exact ih0 _ _ _ _)
      | (with_reducible exact ih1 _ _ _ _ _)
      | (with_reducible exact ih2 _ _ _ _ _)
      | (with_reducible exact ih3 _ _ _ _)
      | (with_reducible exact keystoneref2_Name.mono _ _)
      | (with_reducible exact LeO.refl _)
      | (with_reducible exact LeO.none _)
      | (with_reducible refine LeO.ite ?_ ?_)
      | (with_reducible refine LeO.bind ?_ (fun _ => ?_))
      | exact ih0 _ _ _ _
      | exact ih1 _ _ _ _ _
      | exact ih2 _ _ _ _ _
      | exact ih3 _ _ _ _
      | exact keystoneref2_Name.mono _ _
      | exact LeO.none _
      | refine LeO.ite ?_ ?_
      | refine LeO.bind ?_ (fun _ => ?_)
set_option maxHeartbeats 8000000 in
set_option maxRecDepth 100000 in
theorem keystoneref2_one.calls (k : Nat) (a0 : ByteArray) (a1 : Int) (r1 : Int) (r2 : ByteArray) (r3 : Int) (w : World) (h : keystoneref2_one.f k a0 a1 = some (r1, r2, r3)) :
    Calls Tryd.prog 113 #[.string a0, .int .i64 a1] w fun e w' => e = .returned (.tuple #[.agg #[.int .i64 r1, .string r2], .int .i64 r3]) ∧ Below w.heap.size w w' := by
  have hu34 := Tryd.underlying34
  have HB := Aside0.mk (Below.refl w.heap.size w)
  have H : (keystoneref2_one.l0 k a0 a1 0 (⟨#[]⟩ : ByteArray)) = some (r1, r2, r3) := h
  clear h
  have HC3 := Aside0.mk H
  clear H
  go_enter Tryd.func113, Tryd.ntmps113
  go_upto_block 0 with (first | ((with_reducible refine d_ 4 ?_); (try (refine gate_guard (by rfl) ?_; dsimp only)); refine X_ 4 #[.int .i64 0, .string (⟨#[]⟩ : ByteArray)] 34 ?_; intro gb161 hg w4 hbox hb; have BK161 := Aside0.mk hbox; have GW161 := Aside0.mk (s_ hg); have GE161 := GW161; have HB := bs_ hb; clear hb hbox hg) | ((with_reducible refine d_ 6 ?_); (try (refine gate_guard (by rfl) ?_; dsimp only)); refine X_ 6 #[.int .i64 0, .string (⟨#[]⟩ : ByteArray)] 34 ?_; intro gb162 hg w5 hbox hb; have BK162 := Aside0.mk hbox; have GW162 := Aside0.mk (s_ hg); have GE162 := GW162; have NB161_162 := Aside0.mk (xx_ hg BK161); have BK161 := kb_ BK161 hb; have NB162_161 := Aside0.mk NB161_162.out.symm; have HB := bs_ hb; clear hb hbox hg))
  (try simp only [Act.put, List.setIfInBounds_toArray, List.set_cons_zero, List.set_cons_succ])
  go_cut [1] (fun v1 wc => ∃ (kq : Nat) (x1_2 : Int) (x163000_2 : Int), v1 = .int .i64 x1_2 ∧ Aside0 (keystoneref2_one.j1 kq a0 x1_2 x163000_2 (⟨#[]⟩ : ByteArray) = some (r1, r2, r3)) ∧ Aside0 (kq ≤ k) ∧ Aside0 (wc.heap[gb161]? = some (.cells #[.int .i64 0, .string (⟨#[]⟩ : ByteArray)] 34 (0, 0))) ∧ Aside0 (wc.heap[gb162]? = some (.cells #[.int .i64 x163000_2, .string (⟨#[]⟩ : ByteArray)] 34 (0, 0))) ∧ Aside0 (Below w.heap.size w wc))
  case first =>
    have H := HC3.out
    clear HC3
    have H' := Aside0.mk H
    clear H
    go_wp2
    go_loopg [1] k (fun kq v1 w' => ∃ (x1_1 : Int) (x163000_1 : Int), v1 = .int .i64 x1_1 ∧ Aside0 (keystoneref2_one.l0 kq a0 x1_1 x163000_1 (⟨#[]⟩ : ByteArray) = some (r1, r2, r3)) ∧ Aside0 (kq ≤ k) ∧ Aside0 (w'.heap[gb161]? = some (.cells #[.int .i64 0, .string (⟨#[]⟩ : ByteArray)] 34 (0, 0))) ∧ Aside0 (w'.heap[gb162]? = some (.cells #[.int .i64 x163000_1, .string (⟨#[]⟩ : ByteArray)] 34 (0, 0))) ∧ Aside0 (Below w.heap.size w w'))
    case atStart => exact ⟨(a1), (0), R_, H', ⟨Nat.le_refl _⟩, ⟨M_⟩, ⟨M_⟩, ⟨B_⟩⟩
    case round =>
      clear H'
      try clear c1
      try clear p2
      obtain ⟨x1_1, x163000_1, rfl, HA, HK1, BK161, BK162, HB⟩ := hrel
      cases gk with
      | zero => exact absurd HA.out (by simp [keystoneref2_one.l0])
      | succ k1 =>
        have H := HA.out
        clear HA
        simp only [keystoneref2_one.l0] at H
        by_cases c6 : x1_1 < (a0.size : Int)
        · rw [if_pos c6] at H
          have c6b0 : decide (x1_1 < (a0.size : Int)) = true := decide_eq_true c6
          clear c6
          (first | rw [c6b0] | (simp only [i64_w, i32_w]; rw [c6b0]) | skip)
          by_cases c7 : 0 ≤ x1_1
          · rw [if_pos c7] at H
            have c7b0 : decide (0 ≤ x1_1) = true := decide_eq_true c7
            clear c7
            by_cases c9 : (bt a0 x1_1) = 91
            · rw [if_pos c9] at H
              have c9b0 : ((bt a0 x1_1) == 91) = true := beq_iff_eq.mpr c9
              have c9b1 : ((bt a0 x1_1) != 91) = false := bne_eq_false_iff_eq.mpr c9
              clear c9
              have H' := Aside0.mk H
              clear H
              have p8 : 0 ≤ (x1_1 : Int) := of_decide_eq_true A_
              have q8 : x1_1 < (a0.size : Int) := of_decide_eq_true A_
              have hx8 := bt_at a0 x1_1
              replace p8 := eq_true p8
              replace q8 := eq_true q8
              have hnb10 := NB162_161.out
              have hnc10 := NB161_162.out
              obtain ⟨hcz11_0, hcz11_1, hfz11_0, hfz11_1⟩ := c2_ BK162.out
              go_wp2
              go_roundg k1
              case measure => have := HK1.out; omega
              case rel => exact ⟨(wrap64 (x1_1 + 1)), (wrap64 (x163000_1 + 1)), R_, H', ⟨by have := HK1.out; omega⟩, ⟨P_⟩, ⟨P_⟩, ⟨B_⟩⟩
            · rw [if_neg c9] at H
              have c9b0 : ((bt a0 x1_1) == 91) = false := beq_eq_false_iff_ne.mpr c9
              have c9b1 : ((bt a0 x1_1) != 91) = true := bne_iff_ne.mpr c9
              have H' := Aside0.mk H
              clear H
              have p8 : 0 ≤ (x1_1 : Int) := of_decide_eq_true A_
              have q8 : x1_1 < (a0.size : Int) := of_decide_eq_true A_
              have hx8 := bt_at a0 x1_1
              replace p8 := eq_true p8
              replace q8 := eq_true q8
              go_wp2
              go_meet
              case rel => exact ⟨_, (x1_1), (x163000_1), R_, H', ⟨by have := HK1.out; first | omega | exact Nat.le_refl _⟩, ⟨M_⟩, ⟨M_⟩, ⟨B_⟩⟩
          · rw [if_neg c7] at H
            exact absurd H (by simp)
        · rw [if_neg c6] at H
          have c6b0 : decide (x1_1 < (a0.size : Int)) = false := decide_eq_false c6
          clear c6
          (first | rw [c6b0] | (simp only [i64_w, i32_w]; rw [c6b0]) | skip)
          have H' := Aside0.mk H
          clear H
          go_wp2
          go_meet
          case rel => exact ⟨_, (x1_1), (x163000_1), R_, H', ⟨by have := HK1.out; first | omega | exact Nat.le_refl _⟩, ⟨M_⟩, ⟨M_⟩, ⟨B_⟩⟩
  case rest =>
    clear HC3
    try clear c1
    try clear p2
    try clear c6
    try clear c6b0
    try clear p6
    try clear c7
    try clear c7b0
    try clear p8
    try clear q8
    try clear hx8
    try clear c9
    try clear c9b0
    try clear c9b1
    try clear c10
    try clear c11
    try clear hcz11_0 hcz11_1 hfz11_0 hfz11_1
    try clear p2
    try clear p8
    try clear q8
    obtain ⟨kq, x1_2, x163000_2, rfl, HA, HJ2, BK161, BK162, HB⟩ := hcut
    cases kq with
    | zero => exact absurd HA.out (by simp [keystoneref2_one.j1])
    | succ kj2 =>
      have H := HA.out
      clear HA
      simp only [keystoneref2_one.j1] at H
      have HC12 := Aside0.mk H
      clear H
      go_upto_region 5 with (fail)
      go_cut [32] (fun v32 wc => ∃ (kq : Nat) (x32_11 : Bool), v32 = .bool x32_11 ∧ Aside0 (keystoneref2_one.j2 kq a0 x1_2 x32_11 x163000_2 (⟨#[]⟩ : ByteArray) = some (r1, r2, r3)) ∧ Aside0 (kq ≤ kj2) ∧ Aside0 (wc.heap[gb161]? = some (.cells #[.int .i64 0, .string (⟨#[]⟩ : ByteArray)] 34 (0, 0))) ∧ Aside0 (wc.heap[gb162]? = some (.cells #[.int .i64 x163000_2, .string (⟨#[]⟩ : ByteArray)] 34 (0, 0))) ∧ Aside0 (Below w.heap.size w wc))
      case first =>
        have H := HC12.out
        clear HC12
        by_cases c13 : x163000_2 > 8
        · rw [if_pos c13] at H
          have c13b0 : decide (8 < x163000_2) = true := decide_eq_true c13
          clear c13
          (first | rw [c13b0] | (simp only [i64_w, i32_w]; rw [c13b0]) | skip)
          have H' := Aside0.mk H
          clear H
          have hnb14 := NB162_161.out
          have hnc14 := NB161_162.out
          obtain ⟨hcz15_0, hcz15_1, hfz15_0, hfz15_1⟩ := c2_ BK162.out
          go_wp2
          go_meet
          case rel => exact ⟨_, (true), R_, H', ⟨by have := HJ2.out; first | omega | exact Nat.le_refl _⟩, ⟨M_⟩, ⟨M_⟩, ⟨B_⟩⟩
        · rw [if_neg c13] at H
          have c13b0 : decide (8 < x163000_2) = false := decide_eq_false c13
          clear c13
          (first | rw [c13b0] | (simp only [i64_w, i32_w]; rw [c13b0]) | skip)
          have H' := Aside0.mk H
          clear H
          have hnb16 := NB162_161.out
          have hnc16 := NB161_162.out
          obtain ⟨hcz17_0, hcz17_1, hfz17_0, hfz17_1⟩ := c2_ BK162.out
          go_wp2
          go_meet
          case rel => exact ⟨_, (decide (x1_2 ≥ (a0.size : Int))), R_, H', ⟨by have := HJ2.out; first | omega | exact Nat.le_refl _⟩, ⟨M_⟩, ⟨M_⟩, ⟨B_⟩⟩
      case rest =>
        clear HC12
        try clear c1
        try clear p2
        try clear c6
        try clear c6b0
        try clear p6
        try clear c7
        try clear c7b0
        try clear p8
        try clear q8
        try clear hx8
        try clear c9
        try clear c9b0
        try clear c9b1
        try clear c10
        try clear c11
        try clear c13
        try clear c13b0
        try clear c14
        try clear c16
        try clear hcz11_0 hcz11_1 hfz11_0 hfz11_1
        try clear hcz15_0 hcz15_1 hfz15_0 hfz15_1
        try clear hcz17_0 hcz17_1 hfz17_0 hfz17_1
        try clear p2
        try clear p6
        try clear p8
        try clear q8
        obtain ⟨kq, x32_11, rfl, HA, HJ11, BK161, BK162, HB⟩ := hcut
        cases kq with
        | zero => exact absurd HA.out (by simp [keystoneref2_one.j2])
        | succ kj11 =>
          have H := HA.out
          clear HA
          simp only [keystoneref2_one.j2] at H
          by_cases c18 : x32_11 = true
          · subst c18
            have H1 : (some (x163000_2, (⟨#[]⟩ : ByteArray), (-1))) = some (r1, r2, r3) := by rw [if_pos rfl] at H; exact H
            clear H
            have H := H1
            clear H1
            simp only [Option.some.injEq, Prod.mk.injEq] at H
            obtain ⟨rfl, rfl, rfl⟩ := H
            have hnb19 := NB162_161.out
            have hnc19 := NB161_162.out
            obtain ⟨hcz20_0, hcz20_1, hfz20_0, hfz20_1⟩ := c2_ BK162.out
            obtain ⟨hcz21_0, hcz21_1, hfz21_0, hfz21_1⟩ := c2_ BK161.out
            go_wp2
            refine bodyPost_ret (results_ct rfl _ _ gb161 34 #[.int .i64 x163000_2, .string (⟨#[]⟩ : ByteArray)] (0, 0) _ rfl P_ Tryd.underlying34 rfl (by kernel_rfl)) rfl ?_
            exact ⟨E_, B_⟩
          · replace c18 := Bool.eq_false_iff.mpr c18
            subst c18
            have H1 : (if 0 ≤ x1_2 then (if x1_2 < (a0.size : Int) then (if (bt a0 x1_2) = 73 then (some (x163000_2, (⟨#[]⟩ : ByteArray), wrap64 (x1_2 + 1))) else (if (bt a0 x1_2) = 76 then (keystoneref2_one.l1 kj11 a0 x1_2 (wrap64 (x1_2 + 1)) x163000_2 (⟨#[]⟩ : ByteArray)) else (some (x163000_2, (⟨#[]⟩ : ByteArray), (-1))))) else (none)) else (none)) = some (r1, r2, r3) := by rw [if_neg (show ¬ (false = true) by decide)] at H; exact H
            clear H
            have H := H1
            clear H1
            by_cases c22 : 0 ≤ x1_2
            · rw [if_pos c22] at H
              have c22b0 : decide (0 ≤ x1_2) = true := decide_eq_true c22
              clear c22
              by_cases c23 : x1_2 < (a0.size : Int)
              · rw [if_pos c23] at H
                have c23b0 : decide (x1_2 < (a0.size : Int)) = true := decide_eq_true c23
                clear c23
                by_cases c25 : (bt a0 x1_2) = 73
                · rw [if_pos c25] at H
                  have c25b0 : ((bt a0 x1_2) == 73) = true := beq_iff_eq.mpr c25
                  have c25b1 : ((bt a0 x1_2) != 73) = false := bne_eq_false_iff_eq.mpr c25
                  clear c25
                  simp only [Option.some.injEq, Prod.mk.injEq] at H
                  obtain ⟨rfl, rfl, rfl⟩ := H
                  have p24 : 0 ≤ (x1_2 : Int) := of_decide_eq_true A_
                  have q24 : x1_2 < (a0.size : Int) := of_decide_eq_true A_
                  have hx24 := bt_at a0 x1_2
                  replace p24 := eq_true p24
                  replace q24 := eq_true q24
                  have hnb26 := NB162_161.out
                  have hnc26 := NB161_162.out
                  obtain ⟨hcz27_0, hcz27_1, hfz27_0, hfz27_1⟩ := c2_ BK162.out
                  obtain ⟨hcz28_0, hcz28_1, hfz28_0, hfz28_1⟩ := c2_ BK161.out
                  go_wp2
                  refine bodyPost_ret (results_ct rfl _ _ gb161 34 #[.int .i64 x163000_2, .string (⟨#[]⟩ : ByteArray)] (0, 0) _ rfl P_ Tryd.underlying34 rfl (by kernel_rfl)) rfl ?_
                  exact ⟨E_, B_⟩
                · rw [if_neg c25] at H
                  have c25b0 : ((bt a0 x1_2) == 73) = false := beq_eq_false_iff_ne.mpr c25
                  have c25b1 : ((bt a0 x1_2) != 73) = true := bne_iff_ne.mpr c25
                  by_cases c30 : (bt a0 x1_2) = 76
                  · rw [if_pos c30] at H
                    have c30b0 : ((bt a0 x1_2) == 76) = true := beq_iff_eq.mpr c30
                    have c30b1 : ((bt a0 x1_2) != 76) = false := bne_eq_false_iff_eq.mpr c30
                    clear c30
                    have H' := Aside0.mk H
                    clear H
                    have p24 : 0 ≤ (x1_2 : Int) := of_decide_eq_true A_
                    have q24 : x1_2 < (a0.size : Int) := of_decide_eq_true A_
                    have hx24 := bt_at a0 x1_2
                    replace p24 := eq_true p24
                    replace q24 := eq_true q24
                    have p29 : 0 ≤ (x1_2 : Int) := of_decide_eq_true A_
                    have q29 : x1_2 < (a0.size : Int) := of_decide_eq_true A_
                    have hx29 := bt_at a0 x1_2
                    replace p29 := eq_true p29
                    replace q29 := eq_true q29
                    go_wp2
                    go_loopg [7] kj11 (fun kq v7 w' => ∃ (x7_3 : Int), v7 = .int .i64 x7_3 ∧ Aside0 (keystoneref2_one.l1 kq a0 x1_2 x7_3 x163000_2 (⟨#[]⟩ : ByteArray) = some (r1, r2, r3)) ∧ Aside0 (kq ≤ kj11) ∧ Aside0 (w'.heap[gb161]? = some (.cells #[.int .i64 0, .string (⟨#[]⟩ : ByteArray)] 34 (0, 0))) ∧ Aside0 (w'.heap[gb162]? = some (.cells #[.int .i64 x163000_2, .string (⟨#[]⟩ : ByteArray)] 34 (0, 0))) ∧ Aside0 (Below w.heap.size w w'))
                    case atStart => exact ⟨(wrap64 (x1_2 + 1)), R_, H', ⟨Nat.le_refl _⟩, ⟨M_⟩, ⟨M_⟩, ⟨B_⟩⟩
                    case round =>
                      clear H'
                      try clear c1
                      try clear c2
                      try clear p2
                      try clear q2
                      try clear hx2
                      try clear c3
                      try clear c6
                      try clear c6b0
                      try clear p6
                      try clear c7
                      try clear c7b0
                      try clear p8
                      try clear q8
                      try clear hx8
                      try clear c9
                      try clear c9b0
                      try clear c9b1
                      try clear c10
                      try clear c11
                      try clear c13
                      try clear c13b0
                      try clear c14
                      try clear c16
                      try clear c18
                      try clear c19
                      try clear c22
                      try clear c22b0
                      try clear c23
                      try clear c23b0
                      try clear p24
                      try clear q24
                      try clear hx24
                      try clear c25
                      try clear c25b0
                      try clear c25b1
                      try clear c26
                      try clear p29
                      try clear q29
                      try clear hx29
                      try clear c30
                      try clear c30b0
                      try clear c30b1
                      try clear hcz11_0 hcz11_1 hfz11_0 hfz11_1
                      try clear hcz15_0 hcz15_1 hfz15_0 hfz15_1
                      try clear hcz17_0 hcz17_1 hfz17_0 hfz17_1
                      try clear hcz20_0 hcz20_1 hfz20_0 hfz20_1
                      try clear hcz21_0 hcz21_1 hfz21_0 hfz21_1
                      try clear hcz27_0 hcz27_1 hfz27_0 hfz27_1
                      try clear hcz28_0 hcz28_1 hfz28_0 hfz28_1
                      try clear p2
                      try clear p24
                      try clear p29
                      try clear p6
                      try clear p8
                      try clear q24
                      try clear q29
                      try clear q8
                      obtain ⟨x7_3, rfl, HA, HK3, BK161, BK162, HB⟩ := hrel
                      cases gk with
                      | zero => exact absurd HA.out (by simp [keystoneref2_one.l1])
                      | succ k3 =>
                        have H := HA.out
                        clear HA
                        simp only [keystoneref2_one.l1] at H
                        by_cases c31 : x7_3 < (a0.size : Int)
                        · rw [if_pos c31] at H
                          have c31b0 : decide (x7_3 < (a0.size : Int)) = true := decide_eq_true c31
                          clear c31
                          by_cases c32 : 0 ≤ x7_3
                          · rw [if_pos c32] at H
                            have c32b0 : decide (0 ≤ x7_3) = true := decide_eq_true c32
                            clear c32
                            by_cases c34 : (bt a0 x7_3) = 59
                            · rw [if_pos c34] at H
                              have c34b0 : ((bt a0 x7_3) == 59) = true := beq_iff_eq.mpr c34
                              have c34b1 : ((bt a0 x7_3) != 59) = false := bne_eq_false_iff_eq.mpr c34
                              clear c34
                              by_cases c35 : x7_3 ≥ (a0.size : Int)
                              · rw [if_pos c35] at H
                                have c35b0 : decide ((a0.size : Int) ≤ x7_3) = true := decide_eq_true c35
                                clear c35
                                simp only [Option.some.injEq, Prod.mk.injEq] at H
                                obtain ⟨rfl, rfl, rfl⟩ := H
                                have p33 : 0 ≤ (x7_3 : Int) := of_decide_eq_true A_
                                have q33 : x7_3 < (a0.size : Int) := of_decide_eq_true A_
                                have hx33 := bt_at a0 x7_3
                                replace p33 := eq_true p33
                                replace q33 := eq_true q33
                                have hnb36 := NB162_161.out
                                have hnc36 := NB161_162.out
                                obtain ⟨hcz37_0, hcz37_1, hfz37_0, hfz37_1⟩ := c2_ BK162.out
                                obtain ⟨hcz38_0, hcz38_1, hfz38_0, hfz38_1⟩ := c2_ BK161.out
                                go_wp2
                                refine bodyPost_ret (results_ct rfl _ _ gb161 34 #[.int .i64 x163000_2, .string (⟨#[]⟩ : ByteArray)] (0, 0) _ rfl P_ Tryd.underlying34 rfl (by kernel_rfl)) rfl ?_
                                exact ⟨E_, B_⟩
                              · rw [if_neg c35] at H
                                have c35b0 : decide ((a0.size : Int) ≤ x7_3) = false := decide_eq_false c35
                                clear c35
                                obtain ⟨ji39, hji39⟩ : ∃ j_ : Int, (wrap64 (x1_2 + 1)) = j_ := ⟨_, rfl⟩
                                replace H : (if 0 ≤ (ji39) then (if (ji39) ≤ x7_3 then (if x7_3 ≤ (a0.size : Int) then ((keystoneref2_Name.f k3 (a0.extract ((ji39) : Int).toNat (x7_3 : Int).toNat)).bind fun t163 => (if t163 = true then (some (x163000_2, a0.extract ((ji39) : Int).toNat (x7_3 : Int).toNat, wrap64 (x7_3 + 1))) else (some (x163000_2, (⟨#[]⟩ : ByteArray), (-1))))) else (none)) else (none)) else (none)) = some (r1, r2, r3) := by first | (rw [hji39] at H; exact H) | (simp only [hji39] at H ⊢; exact H)
                                have hji39w : (IntKind.i64.wrap (x1_2 + 1)) = ji39 := (i64_w _).trans hji39
                                by_cases c40 : 0 ≤ (ji39)
                                · rw [if_pos c40] at H
                                  have c40b0 := eq_true c40
                                  have c40b1 : decide (0 ≤ (ji39)) = true := decide_eq_true c40
                                  clear c40
                                  by_cases c41 : (ji39) ≤ x7_3
                                  · rw [if_pos c41] at H
                                    have c41b0 := eq_true c41
                                    have c41b1 : decide ((ji39) ≤ x7_3) = true := decide_eq_true c41
                                    clear c41
                                    by_cases c42 : x7_3 ≤ (a0.size : Int)
                                    · rw [if_pos c42] at H
                                      have c42b0 := eq_true c42
                                      have c42b1 : decide (x7_3 ≤ (a0.size : Int)) = true := decide_eq_true c42
                                      clear c42
                                      replace H := Option.bind_eq_some_iff.mp H
                                      obtain ⟨t163, A430, H⟩ := H
                                      replace H : (if t163 = true then (some (x163000_2, a0.extract ((ji39) : Int).toNat (x7_3 : Int).toNat, wrap64 (x7_3 + 1))) else (some (x163000_2, (⟨#[]⟩ : ByteArray), (-1)))) = some (r1, r2, r3) := H
                                      have A43 := Aside0.mk A430
                                      clear A430
                                      by_cases c44 : t163 = true
                                      · subst c44
                                        have H1 : (some (x163000_2, a0.extract ((ji39) : Int).toNat (x7_3 : Int).toNat, wrap64 (x7_3 + 1))) = some (r1, r2, r3) := by rw [if_pos rfl] at H; exact H
                                        clear H
                                        have H := H1
                                        clear H1
                                        have c45b0 := eq_true (of_decide_eq_true A_ : 0 ≤ (ji39))
                                        have c46b0 := eq_true (of_decide_eq_true A_ : (ji39) ≤ x7_3)
                                        have c47b0 := eq_true (of_decide_eq_true A_ : x7_3 ≤ (a0.size : Int))
                                        simp only [Option.some.injEq, Prod.mk.injEq] at H
                                        obtain ⟨rfl, rfl, rfl⟩ := H
                                        have p33 : 0 ≤ (x7_3 : Int) := of_decide_eq_true A_
                                        have q33 : x7_3 < (a0.size : Int) := of_decide_eq_true A_
                                        have hx33 := bt_at a0 x7_3
                                        replace p33 := eq_true p33
                                        replace q33 := eq_true q33
                                        go_wp2_with (first | (go_at_call 91; (with_reducible refine (keystoneref2_Name.calls k3 (a0.extract ((ji39) : Int).toNat (x7_3 : Int).toNat) true _ A43.out).mono ?_); rintro e w' ⟨rfl, ⟨nd, rfl⟩⟩; (try (rw [drewN_self wr]; generalize hq_ : World.drewN wr _ = wr; have n0_ : Aside0 (wr.heap[gb161]? = some (.cells #[.int .i64 0, .string (⟨#[]⟩ : ByteArray)] 34 (0, 0))) := ⟨by rw [← hq_]; exact M_⟩; have n1_ : Aside0 (wr.heap[gb162]? = some (.cells #[.int .i64 x163000_2, .string (⟨#[]⟩ : ByteArray)] 34 (0, 0))) := ⟨by rw [← hq_]; exact M_⟩; have n2_ : Aside0 (Below w.heap.size w wr) := ⟨by rw [← hq_]; exact B_⟩; clear BK161 BK162 HB hq_; have BK161 := n0_; have BK162 := n1_; have HB := n2_; clear n0_ n1_ n2_)); have hnb48 := NB162_161.out; have hnc48 := NB161_162.out; obtain ⟨hcz49_0, hcz49_1, hfz49_0, hfz49_1⟩ := c2_ BK162.out; obtain ⟨hcz50_0, hcz50_1, hfz50_0, hfz50_1⟩ := c2_ BK161.out))
                                        refine bodyPost_ret (results_ct rfl _ _ gb161 34 #[.int .i64 x163000_2, .string (a0.extract ((ji39) : Int).toNat (x7_3 : Int).toNat)] (0, 0) _ rfl P_ Tryd.underlying34 rfl (by kernel_rfl)) rfl ?_
                                        exact ⟨by first | rfl | (simp [errW_none, errW_some] <;> rfl) | (simp only [← hji39]; first | rfl | (simp [errW_none, errW_some] <;> rfl)) | (simp [*, errW_none, errW_some] <;> rfl), B_⟩
                                      · replace c44 := Bool.eq_false_iff.mpr c44
                                        subst c44
                                        have H1 : (some (x163000_2, (⟨#[]⟩ : ByteArray), (-1))) = some (r1, r2, r3) := by rw [if_neg (show ¬ (false = true) by decide)] at H; exact H
                                        clear H
                                        have H := H1
                                        clear H1
                                        simp only [Option.some.injEq, Prod.mk.injEq] at H
                                        obtain ⟨rfl, rfl, rfl⟩ := H
                                        have p33 : 0 ≤ (x7_3 : Int) := of_decide_eq_true A_
                                        have q33 : x7_3 < (a0.size : Int) := of_decide_eq_true A_
                                        have hx33 := bt_at a0 x7_3
                                        replace p33 := eq_true p33
                                        replace q33 := eq_true q33
                                        go_wp2_with (first | (go_at_call 91; (with_reducible refine (keystoneref2_Name.calls k3 (a0.extract ((ji39) : Int).toNat (x7_3 : Int).toNat) false _ A43.out).mono ?_); rintro e w' ⟨rfl, ⟨nd, rfl⟩⟩; (try (rw [drewN_self wr]; generalize hq_ : World.drewN wr _ = wr; have n0_ : Aside0 (wr.heap[gb161]? = some (.cells #[.int .i64 0, .string (⟨#[]⟩ : ByteArray)] 34 (0, 0))) := ⟨by rw [← hq_]; exact M_⟩; have n1_ : Aside0 (wr.heap[gb162]? = some (.cells #[.int .i64 x163000_2, .string (⟨#[]⟩ : ByteArray)] 34 (0, 0))) := ⟨by rw [← hq_]; exact M_⟩; have n2_ : Aside0 (Below w.heap.size w wr) := ⟨by rw [← hq_]; exact B_⟩; clear BK161 BK162 HB hq_; have BK161 := n0_; have BK162 := n1_; have HB := n2_; clear n0_ n1_ n2_)); have hnb51 := NB162_161.out; have hnc51 := NB161_162.out; obtain ⟨hcz52_0, hcz52_1, hfz52_0, hfz52_1⟩ := c2_ BK162.out; obtain ⟨hcz53_0, hcz53_1, hfz53_0, hfz53_1⟩ := c2_ BK161.out))
                                        refine bodyPost_ret (results_ct rfl _ _ gb161 34 #[.int .i64 x163000_2, .string (⟨#[]⟩ : ByteArray)] (0, 0) _ rfl P_ Tryd.underlying34 rfl (by kernel_rfl)) rfl ?_
                                        exact ⟨by first | rfl | (simp [errW_none, errW_some] <;> rfl) | (simp only [← hji39]; first | rfl | (simp [errW_none, errW_some] <;> rfl)) | (simp [*, errW_none, errW_some] <;> rfl), B_⟩
                                    · rw [if_neg c42] at H
                                      exact absurd H (by simp)
                                  · rw [if_neg c41] at H
                                    exact absurd H (by simp)
                                · rw [if_neg c40] at H
                                  exact absurd H (by simp)
                            · rw [if_neg c34] at H
                              have c34b0 : ((bt a0 x7_3) == 59) = false := beq_eq_false_iff_ne.mpr c34
                              have c34b1 : ((bt a0 x7_3) != 59) = true := bne_iff_ne.mpr c34
                              have H' := Aside0.mk H
                              clear H
                              have p33 : 0 ≤ (x7_3 : Int) := of_decide_eq_true A_
                              have q33 : x7_3 < (a0.size : Int) := of_decide_eq_true A_
                              have hx33 := bt_at a0 x7_3
                              replace p33 := eq_true p33
                              replace q33 := eq_true q33
                              go_wp2
                              go_roundg k3
                              case measure => have := HJ2.out; have := HJ11.out; have := HK3.out; omega
                              case rel => exact ⟨(wrap64 (x7_3 + 1)), R_, H', ⟨by have := HJ2.out; have := HJ11.out; have := HK3.out; omega⟩, ⟨M_⟩, ⟨M_⟩, ⟨B_⟩⟩
                          · rw [if_neg c32] at H
                            exact absurd H (by simp)
                        · rw [if_neg c31] at H
                          have c31b0 : decide (x7_3 < (a0.size : Int)) = false := decide_eq_false c31
                          clear c31
                          by_cases c54 : x7_3 ≥ (a0.size : Int)
                          · rw [if_pos c54] at H
                            have c54b0 : decide ((a0.size : Int) ≤ x7_3) = true := decide_eq_true c54
                            clear c54
                            simp only [Option.some.injEq, Prod.mk.injEq] at H
                            obtain ⟨rfl, rfl, rfl⟩ := H
                            have hnb55 := NB162_161.out
                            have hnc55 := NB161_162.out
                            obtain ⟨hcz56_0, hcz56_1, hfz56_0, hfz56_1⟩ := c2_ BK162.out
                            obtain ⟨hcz57_0, hcz57_1, hfz57_0, hfz57_1⟩ := c2_ BK161.out
                            go_wp2
                            refine bodyPost_ret (results_ct rfl _ _ gb161 34 #[.int .i64 x163000_2, .string (⟨#[]⟩ : ByteArray)] (0, 0) _ rfl P_ Tryd.underlying34 rfl (by kernel_rfl)) rfl ?_
                            exact ⟨E_, B_⟩
                          · rw [if_neg c54] at H
                            have c54b0 : decide ((a0.size : Int) ≤ x7_3) = false := decide_eq_false c54
                            clear c54
                            obtain ⟨ji58, hji58⟩ : ∃ j_ : Int, (wrap64 (x1_2 + 1)) = j_ := ⟨_, rfl⟩
                            replace H : (if 0 ≤ (ji58) then (if (ji58) ≤ x7_3 then (if x7_3 ≤ (a0.size : Int) then ((keystoneref2_Name.f k3 (a0.extract ((ji58) : Int).toNat (x7_3 : Int).toNat)).bind fun t164 => (if t164 = true then (some (x163000_2, a0.extract ((ji58) : Int).toNat (x7_3 : Int).toNat, wrap64 (x7_3 + 1))) else (some (x163000_2, (⟨#[]⟩ : ByteArray), (-1))))) else (none)) else (none)) else (none)) = some (r1, r2, r3) := by first | (rw [hji58] at H; exact H) | (simp only [hji58] at H ⊢; exact H)
                            have hji58w : (IntKind.i64.wrap (x1_2 + 1)) = ji58 := (i64_w _).trans hji58
                            by_cases c59 : 0 ≤ (ji58)
                            · rw [if_pos c59] at H
                              have c59b0 := eq_true c59
                              have c59b1 : decide (0 ≤ (ji58)) = true := decide_eq_true c59
                              clear c59
                              by_cases c60 : (ji58) ≤ x7_3
                              · rw [if_pos c60] at H
                                have c60b0 := eq_true c60
                                have c60b1 : decide ((ji58) ≤ x7_3) = true := decide_eq_true c60
                                clear c60
                                by_cases c61 : x7_3 ≤ (a0.size : Int)
                                · rw [if_pos c61] at H
                                  have c61b0 := eq_true c61
                                  have c61b1 : decide (x7_3 ≤ (a0.size : Int)) = true := decide_eq_true c61
                                  clear c61
                                  replace H := Option.bind_eq_some_iff.mp H
                                  obtain ⟨t164, A620, H⟩ := H
                                  replace H : (if t164 = true then (some (x163000_2, a0.extract ((ji58) : Int).toNat (x7_3 : Int).toNat, wrap64 (x7_3 + 1))) else (some (x163000_2, (⟨#[]⟩ : ByteArray), (-1)))) = some (r1, r2, r3) := H
                                  have A62 := Aside0.mk A620
                                  clear A620
                                  by_cases c63 : t164 = true
                                  · subst c63
                                    have H1 : (some (x163000_2, a0.extract ((ji58) : Int).toNat (x7_3 : Int).toNat, wrap64 (x7_3 + 1))) = some (r1, r2, r3) := by rw [if_pos rfl] at H; exact H
                                    clear H
                                    have H := H1
                                    clear H1
                                    have c64b0 := eq_true (of_decide_eq_true A_ : 0 ≤ (ji58))
                                    have c65b0 := eq_true (of_decide_eq_true A_ : (ji58) ≤ x7_3)
                                    have c66b0 := eq_true (of_decide_eq_true A_ : x7_3 ≤ (a0.size : Int))
                                    simp only [Option.some.injEq, Prod.mk.injEq] at H
                                    obtain ⟨rfl, rfl, rfl⟩ := H
                                    go_wp2_with (first | (go_at_call 91; (with_reducible refine (keystoneref2_Name.calls k3 (a0.extract ((ji58) : Int).toNat (x7_3 : Int).toNat) true _ A62.out).mono ?_); rintro e w' ⟨rfl, ⟨nd, rfl⟩⟩; (try (rw [drewN_self wr]; generalize hq_ : World.drewN wr _ = wr; have n0_ : Aside0 (wr.heap[gb161]? = some (.cells #[.int .i64 0, .string (⟨#[]⟩ : ByteArray)] 34 (0, 0))) := ⟨by rw [← hq_]; exact M_⟩; have n1_ : Aside0 (wr.heap[gb162]? = some (.cells #[.int .i64 x163000_2, .string (⟨#[]⟩ : ByteArray)] 34 (0, 0))) := ⟨by rw [← hq_]; exact M_⟩; have n2_ : Aside0 (Below w.heap.size w wr) := ⟨by rw [← hq_]; exact B_⟩; clear BK161 BK162 HB hq_; have BK161 := n0_; have BK162 := n1_; have HB := n2_; clear n0_ n1_ n2_)); have hnb67 := NB162_161.out; have hnc67 := NB161_162.out; obtain ⟨hcz68_0, hcz68_1, hfz68_0, hfz68_1⟩ := c2_ BK162.out; obtain ⟨hcz69_0, hcz69_1, hfz69_0, hfz69_1⟩ := c2_ BK161.out))
                                    refine bodyPost_ret (results_ct rfl _ _ gb161 34 #[.int .i64 x163000_2, .string (a0.extract ((ji58) : Int).toNat (x7_3 : Int).toNat)] (0, 0) _ rfl P_ Tryd.underlying34 rfl (by kernel_rfl)) rfl ?_
                                    exact ⟨by first | rfl | (simp [errW_none, errW_some] <;> rfl) | (simp only [← hji58]; first | rfl | (simp [errW_none, errW_some] <;> rfl)) | (simp [*, errW_none, errW_some] <;> rfl), B_⟩
                                  · replace c63 := Bool.eq_false_iff.mpr c63
                                    subst c63
                                    have H1 : (some (x163000_2, (⟨#[]⟩ : ByteArray), (-1))) = some (r1, r2, r3) := by rw [if_neg (show ¬ (false = true) by decide)] at H; exact H
                                    clear H
                                    have H := H1
                                    clear H1
                                    simp only [Option.some.injEq, Prod.mk.injEq] at H
                                    obtain ⟨rfl, rfl, rfl⟩ := H
                                    go_wp2_with (first | (go_at_call 91; (with_reducible refine (keystoneref2_Name.calls k3 (a0.extract ((ji58) : Int).toNat (x7_3 : Int).toNat) false _ A62.out).mono ?_); rintro e w' ⟨rfl, ⟨nd, rfl⟩⟩; (try (rw [drewN_self wr]; generalize hq_ : World.drewN wr _ = wr; have n0_ : Aside0 (wr.heap[gb161]? = some (.cells #[.int .i64 0, .string (⟨#[]⟩ : ByteArray)] 34 (0, 0))) := ⟨by rw [← hq_]; exact M_⟩; have n1_ : Aside0 (wr.heap[gb162]? = some (.cells #[.int .i64 x163000_2, .string (⟨#[]⟩ : ByteArray)] 34 (0, 0))) := ⟨by rw [← hq_]; exact M_⟩; have n2_ : Aside0 (Below w.heap.size w wr) := ⟨by rw [← hq_]; exact B_⟩; clear BK161 BK162 HB hq_; have BK161 := n0_; have BK162 := n1_; have HB := n2_; clear n0_ n1_ n2_)); have hnb70 := NB162_161.out; have hnc70 := NB161_162.out; obtain ⟨hcz71_0, hcz71_1, hfz71_0, hfz71_1⟩ := c2_ BK162.out; obtain ⟨hcz72_0, hcz72_1, hfz72_0, hfz72_1⟩ := c2_ BK161.out))
                                    refine bodyPost_ret (results_ct rfl _ _ gb161 34 #[.int .i64 x163000_2, .string (⟨#[]⟩ : ByteArray)] (0, 0) _ rfl P_ Tryd.underlying34 rfl (by kernel_rfl)) rfl ?_
                                    exact ⟨by first | rfl | (simp [errW_none, errW_some] <;> rfl) | (simp only [← hji58]; first | rfl | (simp [errW_none, errW_some] <;> rfl)) | (simp [*, errW_none, errW_some] <;> rfl), B_⟩
                                · rw [if_neg c61] at H
                                  exact absurd H (by simp)
                              · rw [if_neg c60] at H
                                exact absurd H (by simp)
                            · rw [if_neg c59] at H
                              exact absurd H (by simp)
                  · rw [if_neg c30] at H
                    have c30b0 : ((bt a0 x1_2) == 76) = false := beq_eq_false_iff_ne.mpr c30
                    have c30b1 : ((bt a0 x1_2) != 76) = true := bne_iff_ne.mpr c30
                    simp only [Option.some.injEq, Prod.mk.injEq] at H
                    obtain ⟨rfl, rfl, rfl⟩ := H
                    have p24 : 0 ≤ (x1_2 : Int) := of_decide_eq_true A_
                    have q24 : x1_2 < (a0.size : Int) := of_decide_eq_true A_
                    have hx24 := bt_at a0 x1_2
                    replace p24 := eq_true p24
                    replace q24 := eq_true q24
                    have p29 : 0 ≤ (x1_2 : Int) := of_decide_eq_true A_
                    have q29 : x1_2 < (a0.size : Int) := of_decide_eq_true A_
                    have hx29 := bt_at a0 x1_2
                    replace p29 := eq_true p29
                    replace q29 := eq_true q29
                    have hnb73 := NB162_161.out
                    have hnc73 := NB161_162.out
                    obtain ⟨hcz74_0, hcz74_1, hfz74_0, hfz74_1⟩ := c2_ BK162.out
                    obtain ⟨hcz75_0, hcz75_1, hfz75_0, hfz75_1⟩ := c2_ BK161.out
                    go_wp2
                    refine bodyPost_ret (results_ct rfl _ _ gb161 34 #[.int .i64 x163000_2, .string (⟨#[]⟩ : ByteArray)] (0, 0) _ rfl P_ Tryd.underlying34 rfl (by kernel_rfl)) rfl ?_
                    exact ⟨E_, B_⟩
              · rw [if_neg c23] at H
                exact absurd H (by simp)
            · rw [if_neg c22] at H
              exact absurd H (by simp)
def keystoneref2_Type.f (k : Nat) (a0 : ByteArray) : Option (Int × ByteArray × Int) := (keystoneref2_one.f k a0 0).bind fun bt166 => (if bt166.2.2 = (a0.size : Int) then (some (bt166.1, bt166.2.1, 0)) else (some (0, (⟨#[]⟩ : ByteArray), 15)))
theorem keystoneref2_Type.mono : ∀ a0 k, LeO (keystoneref2_Type.f k a0) (keystoneref2_Type.f (k + 1) a0) := by
  intro a0 k
  unfold keystoneref2_Type.f
  repeat' first
      | (with_reducible exact keystoneref2_one.mono _ _ _)
      | (with_reducible exact LeO.refl _)
      | (with_reducible exact LeO.none _)
      | (with_reducible refine LeO.ite ?_ ?_)
      | (with_reducible refine LeO.bind ?_ (fun _ => ?_))
      | exact keystoneref2_one.mono _ _ _
      | exact LeO.none _
      | refine LeO.ite ?_ ?_
      | refine LeO.bind ?_ (fun _ => ?_)
set_option maxHeartbeats 8000000 in
set_option maxRecDepth 100000 in
theorem keystoneref2_Type.calls (k : Nat) (a0 : ByteArray) (r1 : Int) (r2 : ByteArray) (r3 : Int) (w : World) (h : keystoneref2_Type.f k a0 = some (r1, r2, r3)) :
    Calls Tryd.prog 84 #[.string a0] w fun e w' => e = .returned (.tuple #[.agg #[.int .i64 r1, .string r2], .int .i64 r3]) ∧ Below w.heap.size w w' := by
  have hu34 := Tryd.underlying34
  have HB := Aside0.mk (Below.refl w.heap.size w)
  have H : ((keystoneref2_one.f k a0 0).bind fun bt166 => (if bt166.2.2 = (a0.size : Int) then (some (bt166.1, bt166.2.1, 0)) else (some (0, (⟨#[]⟩ : ByteArray), 15)))) = some (r1, r2, r3) := h
  clear h
  replace H := Option.bind_eq_some_iff.mp H
  obtain ⟨⟨t166, t167, t168⟩, A20, H⟩ := H
  replace H : (if t168 = (a0.size : Int) then (some (t166, t167, 0)) else (some (0, (⟨#[]⟩ : ByteArray), 15))) = some (r1, r2, r3) := H
  have A2 := Aside0.mk A20
  clear A20
  by_cases c3 : t168 = (a0.size : Int)
  · rw [if_pos c3] at H
    have c3b0 : (t168 == (a0.size : Int)) = true := beq_iff_eq.mpr c3
    have c3b1 : (t168 != (a0.size : Int)) = false := bne_eq_false_iff_eq.mpr c3
    clear c3
    simp only [Option.some.injEq, Prod.mk.injEq] at H
    obtain ⟨rfl, rfl, rfl⟩ := H
    go_enter Tryd.func84, Tryd.ntmps84
    go_wp2_with (first | ((with_reducible refine d_ 2 ?_); refine X_ 2 #[.int .i64 0, .string (⟨#[]⟩ : ByteArray)] 34 ?_; intro gb165 hg w4 hbox hb; have BK165 := Aside0.mk hbox; have GW165 := Aside0.mk (s_ hg); have GE165 := GW165; have HB := bs_ hb; clear hb hbox hg) | ((with_reducible refine gt_ 113 ?_); refine gd_ 8 Tryd.func113 (keystoneref2_one.calls k a0 0 t166 t167 t168 _ A2.out) ?_; intro w5 hb; have BK165 := kb_ BK165 hb; have HB := bs_ hb; (try clear hb); (try clear hb2); (try clear hk); (try clear hi)) | ((with_reducible refine d_ 4 ?_); refine X_ 4 #[.int .i64 0, .string (⟨#[]⟩ : ByteArray)] 34 ?_; intro gb169 hg w6 hbox hb; have BK169 := Aside0.mk hbox; have GW169 := Aside0.mk (s_ hg); have GE169 := GW169; have NB165_169 := Aside0.mk (xx_ hg BK165); have BK165 := kb_ BK165 hb; have NB169_165 := Aside0.mk NB165_169.out.symm; have HB := bs_ hb; clear hb hbox hg; have hnb7 := NB169_165.out; have hnc7 := NB165_169.out; obtain ⟨hcz8_0, hcz8_1, hfz8_0, hfz8_1⟩ := c2_ BK169.out; obtain ⟨hcz9_0, hcz9_1, hfz9_0, hfz9_1⟩ := c2_ BK165.out))
    refine bodyPost_ret (results_ct rfl _ _ gb165 34 #[.int .i64 t166, .string t167] (0, 0) _ rfl P_ Tryd.underlying34 rfl (by kernel_rfl)) rfl ?_
    exact ⟨E_, B_⟩
  · rw [if_neg c3] at H
    have c3b0 : (t168 == (a0.size : Int)) = false := beq_eq_false_iff_ne.mpr c3
    have c3b1 : (t168 != (a0.size : Int)) = true := bne_iff_ne.mpr c3
    simp only [Option.some.injEq, Prod.mk.injEq] at H
    obtain ⟨rfl, rfl, rfl⟩ := H
    go_enter Tryd.func84, Tryd.ntmps84
    go_wp2_with (first | ((with_reducible refine d_ 2 ?_); refine X_ 2 #[.int .i64 0, .string (⟨#[]⟩ : ByteArray)] 34 ?_; intro gb165 hg w10 hbox hb; have BK165 := Aside0.mk hbox; have GW165 := Aside0.mk (s_ hg); have GE165 := GW165; have HB := bs_ hb; clear hb hbox hg) | ((with_reducible refine gt_ 113 ?_); refine gd_ 8 Tryd.func113 (keystoneref2_one.calls k a0 0 t166 t167 t168 _ A2.out) ?_; intro w11 hb; have BK165 := kb_ BK165 hb; have HB := bs_ hb; (try clear hb); (try clear hb2); (try clear hk); (try clear hi)) | ((with_reducible refine d_ 4 ?_); refine X_ 4 #[.int .i64 0, .string (⟨#[]⟩ : ByteArray)] 34 ?_; intro gb169 hg w12 hbox hb; have BK169 := Aside0.mk hbox; have GW169 := Aside0.mk (s_ hg); have GE169 := GW169; have NB165_169 := Aside0.mk (xx_ hg BK165); have BK165 := kb_ BK165 hb; have NB169_165 := Aside0.mk NB165_169.out.symm; have HB := bs_ hb; clear hb hbox hg; have hnb13 := NB169_165.out; have hnc13 := NB165_169.out; obtain ⟨hcz14_0, hcz14_1, hfz14_0, hfz14_1⟩ := c2_ BK169.out; obtain ⟨hcz15_0, hcz15_1, hfz15_0, hfz15_1⟩ := c2_ BK165.out))
    refine bodyPost_ret (results_ct rfl _ _ gb165 34 #[.int .i64 0, .string (⟨#[]⟩ : ByteArray)] (0, 0) _ rfl P_ Tryd.underlying34 rfl (by kernel_rfl)) rfl ?_
    exact ⟨E_, B_⟩
mutual
def keystoneref2_Sig.j0 : Nat → ByteArray → Bool → Bool → Int → ByteArray → Option ((List (S34)) × Bool × Int × ByteArray × Int)
  | 0, _, _, _, _, _ => none
  | k + 1, x0, x16, x172001, x172002, x172003 => if x16 = true then (some (([] : List (S34)), false, 0, (⟨#[]⟩ : ByteArray), 15)) else (keystoneref2_Sig.l0 k x0 1 ([] : List (S34)) x172001 x172002 x172003)
def keystoneref2_Sig.l0 : Nat → ByteArray → Int → List (S34) → Bool → Int → ByteArray → Option ((List (S34)) × Bool × Int × ByteArray × Int)
  | 0, _, _, _, _, _, _ => none
  | k + 1, x0, x5, x172000, x172001, x172002, x172003 => if x5 < (x0.size : Int) then (if 0 ≤ x5 then (keystoneref2_Sig.j2 k x0 x5 ((bt x0 x5) != 41) x172000 x172001 x172002 x172003) else (none)) else (keystoneref2_Sig.j2 k x0 x5 false x172000 x172001 x172002 x172003)
def keystoneref2_Sig.j2 : Nat → ByteArray → Int → Bool → List (S34) → Bool → Int → ByteArray → Option ((List (S34)) × Bool × Int × ByteArray × Int)
  | 0, _, _, _, _, _, _, _ => none
  | k + 1, x0, x5, x27, x172000, x172001, x172002, x172003 => if x27 = true then ((keystoneref2_one.f k x0 x5).bind fun bt172 => (if bt172.2.2 < 0 then (some (([] : List (S34)), false, 0, (⟨#[]⟩ : ByteArray), 15)) else (if x172000.length < 5864062014805 then (keystoneref2_Sig.l0 k x0 bt172.2.2 (x172000 ++ [(⟨bt172.1, bt172.2.1⟩ : S34)]) x172001 x172002 x172003) else (none)))) else (if x5 ≥ (x0.size : Int) then (some (([] : List (S34)), false, 0, (⟨#[]⟩ : ByteArray), 15)) else (if 0 ≤ (wrap64 (x5 + 1)) then (if (wrap64 (x5 + 1)) ≤ (x0.size : Int) then (if (x0.extract ((wrap64 (x5 + 1)) : Int).toNat x0.size).toList = ([86] : List UInt8) then (if (x172000.length : Int) > 16 then (some (([] : List (S34)), false, 0, (⟨#[]⟩ : ByteArray), 4)) else (some (x172000, true, x172002, x172003, 0))) else ((keystoneref2_Type.f k (x0.extract ((wrap64 (x5 + 1)) : Int).toNat x0.size)).bind fun bt179 => (if bt179.2.2 = 0 then (if (x172000.length : Int) > 16 then (some (([] : List (S34)), false, 0, (⟨#[]⟩ : ByteArray), 4)) else (some (x172000, x172001, bt179.1, bt179.2.1, 0))) else (some (([] : List (S34)), false, 0, (⟨#[]⟩ : ByteArray), 15))))) else (none)) else (none)))
end
def keystoneref2_Sig.f (k : Nat) (a0 : ByteArray) : Option ((List (S34)) × Bool × Int × ByteArray × Int) := if a0.toList = ([] : List UInt8) then (keystoneref2_Sig.j0 k a0 true false 0 (⟨#[]⟩ : ByteArray)) else (if 0 < (a0.size : Int) then (keystoneref2_Sig.j0 k a0 ((bt a0 0) != 40) false 0 (⟨#[]⟩ : ByteArray)) else (none))
theorem keystoneref2_Sig.mono_l : ∀ k, (∀ y0 y1 y2 y3 y4, LeO (keystoneref2_Sig.j0 k y0 y1 y2 y3 y4) (keystoneref2_Sig.j0 (k + 1) y0 y1 y2 y3 y4)) ∧ (∀ y0 y1 y2 y3 y4 y5, LeO (keystoneref2_Sig.l0 k y0 y1 y2 y3 y4 y5) (keystoneref2_Sig.l0 (k + 1) y0 y1 y2 y3 y4 y5)) ∧ (∀ y0 y1 y2 y3 y4 y5 y6, LeO (keystoneref2_Sig.j2 k y0 y1 y2 y3 y4 y5 y6) (keystoneref2_Sig.j2 (k + 1) y0 y1 y2 y3 y4 y5 y6))
  | 0 => ⟨fun _ _ _ _ _ r h => by simp [keystoneref2_Sig.j0] at h, fun _ _ _ _ _ _ r h => by simp [keystoneref2_Sig.l0] at h, fun _ _ _ _ _ _ _ r h => by simp [keystoneref2_Sig.j2] at h⟩
  | k + 1 => by
    obtain ⟨ih0, ih1, ih2⟩ := keystoneref2_Sig.mono_l k
    refine ⟨?_, ?_, ?_⟩
    · intro y0 y1 y2 y3 y4
      unfold keystoneref2_Sig.j0
      repeat' first
      | (with_reducible exact ih0 _ _ _ _ _)
      | (with_reducible exact ih1 _ _ _ _ _ _)
      | (with_reducible exact ih2 _ _ _ _ _ _ _)
      | (with_reducible exact keystoneref2_Type.mono _ _)
      | (with_reducible exact keystoneref2_one.mono _ _ _)
      | (with_reducible exact LeO.refl _)
      | (with_reducible exact LeO.none _)
      | (with_reducible refine LeO.ite ?_ ?_)
      | (with_reducible refine LeO.bind ?_ (fun _ => ?_))
      | exact ih0 _ _ _ _ _
      | exact ih1 _ _ _ _ _ _
      | exact ih2 _ _ _ _ _ _ _
      | exact keystoneref2_Type.mono _ _
      | exact keystoneref2_one.mono _ _ _
      | exact LeO.none _
      | refine LeO.ite ?_ ?_
      | refine LeO.bind ?_ (fun _ => ?_)
    · intro y0 y1 y2 y3 y4 y5
      unfold keystoneref2_Sig.l0
      repeat' first
      | (with_reducible exact ih0 _ _ _ _ _)
      | (with_reducible exact ih1 _ _ _ _ _ _)
      | (with_reducible exact ih2 _ _ _ _ _ _ _)
      | (with_reducible exact keystoneref2_Type.mono _ _)
      | (with_reducible exact keystoneref2_one.mono _ _ _)
      | (with_reducible exact LeO.refl _)
      | (with_reducible exact LeO.none _)
      | (with_reducible refine LeO.ite ?_ ?_)
      | (with_reducible refine LeO.bind ?_ (fun _ => ?_))
      | exact ih0 _ _ _ _ _
      | exact ih1 _ _ _ _ _ _
      | exact ih2 _ _ _ _ _ _ _
      | exact keystoneref2_Type.mono _ _
      | exact keystoneref2_one.mono _ _ _
      | exact LeO.none _
      | refine LeO.ite ?_ ?_
      | refine LeO.bind ?_ (fun _ => ?_)
    · intro y0 y1 y2 y3 y4 y5 y6
      unfold keystoneref2_Sig.j2
      repeat' first
      | (with_reducible exact ih0 _ _ _ _ _)
      | (with_reducible exact ih1 _ _ _ _ _ _)
      | (with_reducible exact ih2 _ _ _ _ _ _ _)
      | (with_reducible exact keystoneref2_Type.mono _ _)
      | (with_reducible exact keystoneref2_one.mono _ _ _)
      | (with_reducible exact LeO.refl _)
      | (with_reducible exact LeO.none _)
      | (with_reducible refine LeO.ite ?_ ?_)
      | (with_reducible refine LeO.bind ?_ (fun _ => ?_))
      | exact ih0 _ _ _ _ _
      | exact ih1 _ _ _ _ _ _
      | exact ih2 _ _ _ _ _ _ _
      | exact keystoneref2_Type.mono _ _
      | exact keystoneref2_one.mono _ _ _
      | exact LeO.none _
      | refine LeO.ite ?_ ?_
      | refine LeO.bind ?_ (fun _ => ?_)
theorem keystoneref2_Sig.mono : ∀ a0 k, LeO (keystoneref2_Sig.f k a0) (keystoneref2_Sig.f (k + 1) a0) := by
  intro a0 k
  obtain ⟨ih0, ih1, ih2⟩ := keystoneref2_Sig.mono_l k
  unfold keystoneref2_Sig.f
  repeat' first
      | (with_reducible exact ih0 _ _ _ _ _)
      | (with_reducible exact ih1 _ _ _ _ _ _)
      | (with_reducible exact ih2 _ _ _ _ _ _ _)
      | (with_reducible exact keystoneref2_Type.mono _ _)
      | (with_reducible exact keystoneref2_one.mono _ _ _)
      | (with_reducible exact LeO.refl _)
      | (with_reducible exact LeO.none _)
      | (with_reducible refine LeO.ite ?_ ?_)
      | (with_reducible refine LeO.bind ?_ (fun _ => ?_))
      | exact ih0 _ _ _ _ _
      | exact ih1 _ _ _ _ _ _
      | exact ih2 _ _ _ _ _ _ _
      | exact keystoneref2_Type.mono _ _
      | exact keystoneref2_one.mono _ _ _
      | exact LeO.none _
      | refine LeO.ite ?_ ?_
      | refine LeO.bind ?_ (fun _ => ?_)
set_option maxHeartbeats 8000000 in
set_option maxRecDepth 100000 in
theorem keystoneref2_Sig.calls (k : Nat) (a0 : ByteArray) (r1 : List (S34)) (r2 : Bool) (r3 : Int) (r4 : ByteArray) (r5 : Int) (w : World) (h : keystoneref2_Sig.f k a0 = some (r1, r2, r3, r4, r5)) :
    Calls Tryd.prog 85 #[.string a0] w fun e w' => ∃ v0_ : Value, e = .returned (.tuple #[.agg #[v0_, .bool r2, .int .i64 r3, .string r4], .int .i64 r5]) ∧ Kd.R k34 34 w' w.heap.size (fun _ => True) v0_ r1 ∧ Below w.heap.size w w' := by
  have hu39 := Tryd.underlying39
  have hu34 := Tryd.underlying34
  have HB := Aside0.mk (Below.refl w.heap.size w)
  have H : (if a0.toList = ([] : List UInt8) then (keystoneref2_Sig.j0 k a0 true false 0 (⟨#[]⟩ : ByteArray)) else (if 0 < (a0.size : Int) then (keystoneref2_Sig.j0 k a0 ((bt a0 0) != 40) false 0 (⟨#[]⟩ : ByteArray)) else (none))) = some (r1, r2, r3, r4, r5) := h
  clear h
  have HC2 := Aside0.mk H
  clear H
  go_enter Tryd.func85, Tryd.ntmps85
  go_upto_region 2 with (first | ((with_reducible refine d_ 2 ?_); refine X_ 2 #[.slice none 0 0, .bool false, .int .i64 0, .string (⟨#[]⟩ : ByteArray)] 39 ?_; intro gb170 hg w3 hbox hb; have BK170 := Aside0.mk hbox; have GW170 := Aside0.mk (s_ hg); have GE170 := GW170; have HB := bs_ hb; clear hb hbox hg) | ((with_reducible refine d_ 4 ?_); refine X_ 4 #[.slice none 0 0, .bool false, .int .i64 0, .string (⟨#[]⟩ : ByteArray)] 39 ?_; intro gb171 hg w4 hbox hb; have BK171 := Aside0.mk hbox; have GW171 := Aside0.mk (s_ hg); have GE171 := GW171; have NB170_171 := Aside0.mk (xx_ hg BK170); have BK170 := kb_ BK170 hb; have NB171_170 := Aside0.mk NB170_171.out.symm; have HB := bs_ hb; clear hb hbox hg))
  (try simp only [Act.put, List.setIfInBounds_toArray, List.set_cons_zero, List.set_cons_succ])
  go_cut [16] (fun v16 wc => ∃ (kq : Nat) (x16_1 : Bool), v16 = .bool x16_1 ∧ Aside0 (keystoneref2_Sig.j0 kq a0 x16_1 false 0 (⟨#[]⟩ : ByteArray) = some (r1, r2, r3, r4, r5)) ∧ Aside0 (kq ≤ k) ∧ Aside0 (wc.heap[gb170]? = some (.cells #[(.slice none 0 0), .bool false, .int .i64 0, .string (⟨#[]⟩ : ByteArray)] 39 (0, 0))) ∧ Aside0 (wc.heap[gb171]? = some (.cells #[(.slice none 0 0), .bool false, .int .i64 0, .string (⟨#[]⟩ : ByteArray)] 39 (0, 0))) ∧ Aside0 (Below w.heap.size w wc))
  case first =>
    have H := HC2.out
    clear HC2
    by_cases c5 : a0.toList = ([] : List UInt8)
    · rw [if_pos c5] at H
      have c5b0 : (a0.toList == ([] : List UInt8)) = true := beq_iff_eq.mpr c5
      have c5b1 : (a0.toList != ([] : List UInt8)) = false := bne_eq_false_iff_eq.mpr c5
      clear c5
      (first | rw [c5b0] | (simp only [i64_w, i32_w]; rw [c5b0]) | skip)
      have H' := Aside0.mk H
      clear H
      go_wp2
      go_meet
      case rel => exact ⟨_, (true), R_, H', ⟨by first | omega | exact Nat.le_refl _⟩, ⟨M_⟩, ⟨M_⟩, ⟨B_⟩⟩
    · rw [if_neg c5] at H
      have c5b0 : (a0.toList == ([] : List UInt8)) = false := beq_eq_false_iff_ne.mpr c5
      have c5b1 : (a0.toList != ([] : List UInt8)) = true := bne_iff_ne.mpr c5
      (first | rw [c5b0] | (simp only [i64_w, i32_w]; rw [c5b0]) | skip)
      by_cases c6 : 0 < (a0.size : Int)
      · rw [if_pos c6] at H
        have c6b0 : decide (0 < (a0.size : Int)) = true := decide_eq_true c6
        have c6b1 : decide (0 < a0.size) = true := decide_eq_true (by omega)
        clear c6
        have H' := Aside0.mk H
        clear H
        have p7 : 0 ≤ (0 : Int) := (by omega)
        have q7 : 0 < a0.size := (by have : (0 : Int) < (a0.size : Int) := of_decide_eq_true A_; omega)
        have hx7 : ∀ h : 0 < a0.size, ((a0[0]'h).toNat : Int) = bt a0 0 := bt_at a0 0
        clear p7
        have qi7 : (0 < (a0.size : Int)) = True := eq_true (of_decide_eq_true A_)
        replace q7 := eq_true q7
        go_wp2
        go_meet
        case rel => exact ⟨_, (((bt a0 0) != 40)), R_, H', ⟨by first | omega | exact Nat.le_refl _⟩, ⟨M_⟩, ⟨M_⟩, ⟨B_⟩⟩
      · rw [if_neg c6] at H
        exact absurd H (by simp)
  case rest =>
    clear HC2
    try clear p2
    try clear c5
    try clear c5b0
    try clear c5b1
    try clear c6
    try clear c6b0
    try clear c6b1
    try clear p7
    try clear q7
    try clear hx7
    try clear qi7
    try clear p7
    try clear q7
    obtain ⟨kq, x16_1, rfl, HA, HJ1, BK170, BK171, HB⟩ := hcut
    cases kq with
    | zero => exact absurd HA.out (by simp [keystoneref2_Sig.j0])
    | succ kj1 =>
      have H := HA.out
      clear HA
      simp only [keystoneref2_Sig.j0] at H
      by_cases c8 : x16_1 = true
      · subst c8
        have H1 : (some (([] : List (S34)), false, 0, (⟨#[]⟩ : ByteArray), 15)) = some (r1, r2, r3, r4, r5) := by rw [if_pos rfl] at H; exact H
        clear H
        have H := H1
        clear H1
        simp only [Option.some.injEq, Prod.mk.injEq] at H
        obtain ⟨rfl, rfl, rfl, rfl, rfl⟩ := H
        have hnb9 := NB170_171.out
        have hnc9 := NB171_170.out
        obtain ⟨hcz10_0, hcz10_1, hcz10_2, hcz10_3, hfz10_0, hfz10_1, hfz10_2, hfz10_3⟩ := c4_ BK170.out
        go_wp2
        refine bodyPost_ret (results_ct rfl _ _ gb170 39 #[.slice none 0 0, .bool false, .int .i64 0, .string (⟨#[]⟩ : ByteArray)] (0, 0) _ rfl P_ Tryd.underlying39 rfl (by kernel_rfl)) rfl ?_
        exact ⟨_, E_, by first | exact Kd.R_nil _ _ _ _ _ | exact Kd.N_nil _ _ _ _ _ | exact Kd.V_nil _ _ _ _ _ | exact Kd.Q_nil _ _ _ _ _ | exact Kd.S_nil _ _ _ _ _, B_⟩
      · replace c8 := Bool.eq_false_iff.mpr c8
        subst c8
        have H1 : (keystoneref2_Sig.l0 kj1 a0 1 ([] : List (S34)) false 0 (⟨#[]⟩ : ByteArray)) = some (r1, r2, r3, r4, r5) := by rw [if_neg (show ¬ (false = true) by decide)] at H; exact H
        clear H
        have H := H1
        clear H1
        have H' := Aside0.mk H
        clear H
        go_wp2
        go_loopg [5] kj1 (fun kq v5 w' => ∃ (x5_2 : Int) (x171001_2 : Bool) (x171002_2 : Int) (x171003_2 : ByteArray) (x172000_2 : List (S34)) (u172000 : Value), v5 = .int .i64 x5_2 ∧ Aside0 (keystoneref2_Sig.l0 kq a0 x5_2 x172000_2 false 0 (⟨#[]⟩ : ByteArray) = some (r1, r2, r3, r4, r5)) ∧ Aside0 (kq ≤ kj1) ∧ Aside0 (Kd.R k34 34 w' w.heap.size (fun _ => True) u172000 x172000_2) ∧ Aside0 (w'.heap[gb170]? = some (.cells #[(.slice none 0 0), .bool x171001_2, .int .i64 x171002_2, .string x171003_2] 39 (0, 0))) ∧ Aside0 (w'.heap[gb171]? = some (.cells #[u172000, .bool false, .int .i64 0, .string (⟨#[]⟩ : ByteArray)] 39 (0, 0))) ∧ Aside0 (Below w.heap.size w w'))
        case atStart => exact ⟨(1), (false), (0), ((⟨#[]⟩ : ByteArray)), (([] : List (S34))), (.slice none 0 0), R_, H', ⟨Nat.le_refl _⟩, ⟨by first | exact Kd.R_nil _ _ _ _ _ | exact Kd.N_nil _ _ _ _ _ | exact Kd.V_nil _ _ _ _ _ | exact Kd.Q_nil _ _ _ _ _ | exact Kd.S_nil _ _ _ _ _⟩, ⟨M_⟩, ⟨M_⟩, ⟨B_⟩⟩
        case round =>
          clear H'
          try clear p2
          try clear c5
          try clear c5b0
          try clear c5b1
          try clear c6
          try clear c6b0
          try clear c6b1
          try clear p7
          try clear q7
          try clear hx7
          try clear qi7
          try clear c8
          try clear c9
          try clear hcz10_0 hcz10_1 hcz10_2 hcz10_3 hfz10_0 hfz10_1 hfz10_2 hfz10_3
          try clear p2
          try clear p7
          try clear q7
          obtain ⟨x5_2, x171001_2, x171002_2, x171003_2, x172000_2, u172000, rfl, HA, HK2, HO_172000, BK170, BK171, HB⟩ := hrel
          cases gk with
          | zero => exact absurd HA.out (by simp [keystoneref2_Sig.l0])
          | succ k2 =>
            have H := HA.out
            clear HA
            simp only [keystoneref2_Sig.l0] at H
            have HC11 := Aside0.mk H
            clear H
            go_upto_region 5 with (fail)
            go_cut [27] (fun v27 wc => ∃ (kq : Nat) (x27_10 : Bool), v27 = .bool x27_10 ∧ Aside0 (keystoneref2_Sig.j2 kq a0 x5_2 x27_10 x172000_2 false 0 (⟨#[]⟩ : ByteArray) = some (r1, r2, r3, r4, r5)) ∧ Aside0 (kq ≤ k2) ∧ Aside0 (Kd.R k34 34 wc w.heap.size (fun _ => True) u172000 x172000_2) ∧ Aside0 (wc.heap[gb170]? = some (.cells #[(.slice none 0 0), .bool x171001_2, .int .i64 x171002_2, .string x171003_2] 39 (0, 0))) ∧ Aside0 (wc.heap[gb171]? = some (.cells #[u172000, .bool false, .int .i64 0, .string (⟨#[]⟩ : ByteArray)] 39 (0, 0))) ∧ Aside0 (Below w.heap.size w wc))
            case first =>
              have H := HC11.out
              clear HC11
              by_cases c12 : x5_2 < (a0.size : Int)
              · rw [if_pos c12] at H
                have c12b0 : decide (x5_2 < (a0.size : Int)) = true := decide_eq_true c12
                clear c12
                (first | rw [c12b0] | (simp only [i64_w, i32_w]; rw [c12b0]) | skip)
                by_cases c13 : 0 ≤ x5_2
                · rw [if_pos c13] at H
                  have c13b0 : decide (0 ≤ x5_2) = true := decide_eq_true c13
                  clear c13
                  have H' := Aside0.mk H
                  clear H
                  have p14 : 0 ≤ (x5_2 : Int) := of_decide_eq_true A_
                  have q14 : x5_2 < (a0.size : Int) := of_decide_eq_true A_
                  have hx14 := bt_at a0 x5_2
                  replace p14 := eq_true p14
                  replace q14 := eq_true q14
                  go_wp2
                  go_meet
                  case rel => exact ⟨_, (((bt a0 x5_2) != 41)), R_, H', ⟨by have := HJ1.out; have := HK2.out; first | omega | exact Nat.le_refl _⟩, ⟨by (with_reducible repeat (first | apply Kd.R_alloc | apply Kd.R_drewN | apply Kd.R_drew)); exact HO_172000.out⟩, ⟨M_⟩, ⟨M_⟩, ⟨B_⟩⟩
                · rw [if_neg c13] at H
                  exact absurd H (by simp)
              · rw [if_neg c12] at H
                have c12b0 : decide (x5_2 < (a0.size : Int)) = false := decide_eq_false c12
                clear c12
                (first | rw [c12b0] | (simp only [i64_w, i32_w]; rw [c12b0]) | skip)
                have H' := Aside0.mk H
                clear H
                go_wp2
                go_meet
                case rel => exact ⟨_, (false), R_, H', ⟨by have := HJ1.out; have := HK2.out; first | omega | exact Nat.le_refl _⟩, ⟨by (with_reducible repeat (first | apply Kd.R_alloc | apply Kd.R_drewN | apply Kd.R_drew)); exact HO_172000.out⟩, ⟨M_⟩, ⟨M_⟩, ⟨B_⟩⟩
            case rest =>
              clear HC11
              try clear c1
              try clear p1
              try clear q1
              try clear hx1
              try clear p2
              try clear c5
              try clear c5b0
              try clear c5b1
              try clear c6
              try clear c6b0
              try clear c6b1
              try clear p7
              try clear q7
              try clear hx7
              try clear qi7
              try clear c8
              try clear c9
              try clear c12
              try clear c12b0
              try clear c13
              try clear c13b0
              try clear p14
              try clear q14
              try clear hx14
              try clear hcz10_0 hcz10_1 hcz10_2 hcz10_3 hfz10_0 hfz10_1 hfz10_2 hfz10_3
              try clear p14
              try clear p2
              try clear p7
              try clear q14
              try clear q7
              obtain ⟨kq, x27_10, rfl, HA, HJ10, HO_172000, BK170, BK171, HB⟩ := hcut
              cases kq with
              | zero => exact absurd HA.out (by simp [keystoneref2_Sig.j2])
              | succ kj10 =>
                have H := HA.out
                clear HA
                simp only [keystoneref2_Sig.j2] at H
                by_cases c15 : x27_10 = true
                · subst c15
                  have H1 : ((keystoneref2_one.f kj10 a0 x5_2).bind fun bt172 => (if bt172.2.2 < 0 then (some (([] : List (S34)), false, 0, (⟨#[]⟩ : ByteArray), 15)) else (if x172000_2.length < 5864062014805 then (keystoneref2_Sig.l0 kj10 a0 bt172.2.2 (x172000_2 ++ [(⟨bt172.1, bt172.2.1⟩ : S34)]) false 0 (⟨#[]⟩ : ByteArray)) else (none)))) = some (r1, r2, r3, r4, r5) := by rw [if_pos rfl] at H; exact H
                  clear H
                  have H := H1
                  clear H1
                  replace H := Option.bind_eq_some_iff.mp H
                  obtain ⟨⟨t172, t173, t174⟩, A160, H⟩ := H
                  replace H : (if t174 < 0 then (some (([] : List (S34)), false, 0, (⟨#[]⟩ : ByteArray), 15)) else (if x172000_2.length < 5864062014805 then (keystoneref2_Sig.l0 kj10 a0 t174 (x172000_2 ++ [(⟨t172, t173⟩ : S34)]) false 0 (⟨#[]⟩ : ByteArray)) else (none))) = some (r1, r2, r3, r4, r5) := H
                  have A16 := Aside0.mk A160
                  clear A160
                  by_cases c17 : t174 < 0
                  · rw [if_pos c17] at H
                    have c17b0 : decide (t174 < 0) = true := decide_eq_true c17
                    clear c17
                    simp only [Option.some.injEq, Prod.mk.injEq] at H
                    obtain ⟨rfl, rfl, rfl, rfl, rfl⟩ := H
                    go_wp2_with (first | ((with_reducible refine gt_ 113 ?_); refine gd_ 31 Tryd.func113 (keystoneref2_one.calls kj10 a0 x5_2 t172 t173 t174 _ A16.out) ?_; intro w18 hb; have HO_172000 := rb_ HO_172000 hb; have BK170 := kb_ BK170 hb; have BK171 := kb_ BK171 hb; have HB := bs_ hb; (try clear hb); (try clear hb2); (try clear hk); (try clear hi)) | ((with_reducible refine d_ 6 ?_); refine X_ 6 #[.int .i64 0, .string (⟨#[]⟩ : ByteArray)] 34 ?_; intro gb175 hg w19 hbox hb; have HO_172000 := Aside0.mk (Kd.R_below (Kd.R_elderB (Q_ HO_172000.out) gb175 (Nat.le_of_eq hg.symm)) hb); have BK175 := Aside0.mk hbox; have GW175 := Aside0.mk (s_ hg); have GE175 := GW175; have NB170_175 := Aside0.mk (xx_ hg BK170); have BK170 := kb_ BK170 hb; have NB175_170 := Aside0.mk NB170_175.out.symm; have NB171_175 := Aside0.mk (xx_ hg BK171); have BK171 := kb_ BK171 hb; have NB175_171 := Aside0.mk NB171_175.out.symm; have HB := bs_ hb; clear hb hbox hg; have hnb20 := NB175_170.out; have hnc20 := NB170_175.out; have hnb21 := NB175_171.out; have hnc21 := NB171_175.out; obtain ⟨hcz22_0, hcz22_1, hfz22_0, hfz22_1⟩ := c2_ BK175.out; have hnb23 := NB170_171.out; have hnc23 := NB171_170.out; obtain ⟨hcz24_0, hcz24_1, hcz24_2, hcz24_3, hfz24_0, hfz24_1, hfz24_2, hfz24_3⟩ := c4_ BK170.out))
                    refine bodyPost_ret (results_ct rfl _ _ gb170 39 #[.slice none 0 0, .bool false, .int .i64 0, .string (⟨#[]⟩ : ByteArray)] (0, 0) _ rfl P_ Tryd.underlying39 rfl (by kernel_rfl)) rfl ?_
                    exact ⟨_, E_, by first | exact Kd.R_nil _ _ _ _ _ | exact Kd.N_nil _ _ _ _ _ | exact Kd.V_nil _ _ _ _ _ | exact Kd.Q_nil _ _ _ _ _ | exact Kd.S_nil _ _ _ _ _, B_⟩
                  · rw [if_neg c17] at H
                    have c17b0 : decide (t174 < 0) = false := decide_eq_false c17
                    clear c17
                    by_cases c25 : x172000_2.length < 5864062014805
                    · rw [if_pos c25] at H
                      have LMc25 := Aside0.mk c25
                      clear c25
                      obtain ⟨y176, hy176⟩ : ∃ y_ : List (S34), y_ = (x172000_2 ++ [(⟨t172, t173⟩ : S34)]) := ⟨_, rfl⟩
                      replace H : (keystoneref2_Sig.l0 kj10 a0 t174 y176 false 0 (⟨#[]⟩ : ByteArray)) = some (r1, r2, r3, r4, r5) := by first | (rw [hy176]; with_reducible exact H) | (have H2_ := (Option.bind_some _ _).symm.trans H; rw [hy176]; with_reducible exact H2_) | (have H2_ := (Option.bind_some _ _).symm.trans H; with_reducible exact H2_) | with_reducible exact H | (rw [hy176]; exact H) | exact H
                      have Ny176 := Aside0.mk hy176
                      clear hy176
                      have H' := Aside0.mk H
                      clear H
                      go_wp2_with (first | ((with_reducible refine gt_ 113 ?_); refine gd_ 31 Tryd.func113 (keystoneref2_one.calls kj10 a0 x5_2 t172 t173 t174 _ A16.out) ?_; intro w26 hb; have HO_172000 := rb_ HO_172000 hb; have BK170 := kb_ BK170 hb; have BK171 := kb_ BK171 hb; have HB := bs_ hb; (try clear hb); (try clear hb2); (try clear hk); (try clear hi)) | ((with_reducible refine d_ 6 ?_); refine X_ 6 #[.int .i64 0, .string (⟨#[]⟩ : ByteArray)] 34 ?_; intro gb175 hg w27 hbox hb; have HO_172000 := Aside0.mk (Kd.R_below (Kd.R_elderB (Q_ HO_172000.out) gb175 (Nat.le_of_eq hg.symm)) hb); have BK175 := Aside0.mk hbox; have GW175 := Aside0.mk (s_ hg); have GE175 := GW175; have NB170_175 := Aside0.mk (xx_ hg BK170); have BK170 := kb_ BK170 hb; have NB175_170 := Aside0.mk NB170_175.out.symm; have NB171_175 := Aside0.mk (xx_ hg BK171); have BK171 := kb_ BK171 hb; have NB175_171 := Aside0.mk NB171_175.out.symm; have HB := bs_ hb; clear hb hbox hg; have hnb28 := NB175_170.out; have hnc28 := NB170_175.out; have hnb29 := NB175_171.out; have hnc29 := NB171_175.out; obtain ⟨hcz30_0, hcz30_1, hfz30_0, hfz30_1⟩ := c2_ BK175.out; have hnb31 := NB171_170.out; have hnc31 := NB170_171.out; obtain ⟨hcz32_0, hcz32_1, hcz32_2, hcz32_3, hfz32_0, hfz32_1, hfz32_2, hfz32_3⟩ := c4_ BK171.out) | ((with_reducible refine gate_builtin (b := .append) (xs := #[.tmp 38, .tmp 40]) rfl ?_); at_builtin; refine Kd.R_append k34 (w0 := w) w.heap.size rfl (.tmp 38) (.tmp 40) 37 34 (.agg #[(.int .i64 0), (.string ⟨#[]⟩)]) 24 rfl Tryd.underlying37 info34 rfl (by decide) (by omega) u172000 x172000_2 (⟨t172, t173⟩ : S34) [.int .i64 t172, .string t173] (fun k_ => k_ ≠ gb175) (fun _ => False) rfl (by first | (go_simp; done) | (go_simp; rfl)) ?aP (fun _ hk => hk.elim) ?aF ?aO ?aB ?aS ?aL ?_; (case aP => exact k34_mkM _ _ _ (⟨t172, t173⟩ : S34)); (case aB => exact B_); (case aF => exact (fun k_ hk => Kd.freshB (g := gb175) (o := .cells #[.int .i64 t172, .string t173] 34 (0, 0)) P_ k_ hk)); (case aO => exact (by (with_reducible repeat (first | apply Kd.R_alloc | apply Kd.R_drewN | apply Kd.R_drew)); exact Kd.R_mono (Kd.R_far (p := ⟨gb175, 1, none⟩) (Kd.R_far (p := ⟨gb175, 0, none⟩) (Kd.R_mono HO_172000.out (fun k_ hk => (⟨hk, hk.2⟩ : _ ∧ k_ ≠ gb175))) (fun _ hk => hk.2) (.int .i64 t172)) (fun _ hk => hk.2) (.string t173)) (fun _ hk => hk.1.2))); (case aS => exact (below_size B_)); (case aL => have := LMc25.out; omega); intro v177 w33 ho hb hg hat; rw [← Ny176.out] at ho; have BK170 := Aside0.mk (blk_grown (g := gb170) (o := .cells #[.slice none 0 0, .bool x171001_2, .int .i64 x171002_2, .string x171003_2] 39 (0, 0)) P_ hg (Kd.R_ne HO_172000.out BK170.out (by decide))); have BK171 := Aside0.mk (blk_grown (g := gb171) (o := .cells #[u172000, .bool false, .int .i64 0, .string (⟨#[]⟩ : ByteArray)] 39 (0, 0)) P_ hg (Kd.R_ne HO_172000.out BK171.out (by decide))); have BK175 := Aside0.mk (blk_grown (g := gb175) (o := .cells #[.int .i64 t172, .string t173] 34 (0, 0)) P_ hg (Kd.R_away HO_172000.out (fun _ hk => hk.2))); have HO178 := Aside0.mk (ho); have HB := Aside0.mk (hb); clear HO_172000; clear ho hb hg hat; obtain ⟨Ao34, co34, eo34⟩ := Kd.R_slice HO178.out; subst eo34; obtain ⟨hcz35_0, hcz35_1, hcz35_2, hcz35_3, hfz35_0, hfz35_1, hfz35_2, hfz35_3⟩ := c4_ BK171.out))
                      go_roundg kj10
                      case measure => have := HJ1.out; have := HK2.out; have := HJ10.out; omega
                      case rel => exact ⟨(t174), (x171001_2), (x171002_2), (x171003_2), (y176), (.slice Ao34 y176.length co34), R_, H', ⟨by have := HJ1.out; have := HK2.out; have := HJ10.out; omega⟩, ⟨by (with_reducible repeat (first | apply Kd.R_alloc | apply Kd.R_drewN | apply Kd.R_drew)); exact Kd.R_mono (Kd.R_far (p := ⟨gb171, 0, none⟩) (Kd.R_types HO178.out BK171.out (by decide)) (fun _ hk => hk.2) (.slice Ao34 y176.length co34)) (fun _ hk => trivial)⟩, ⟨P_⟩, ⟨P_⟩, ⟨B_⟩⟩
                    · rw [if_neg c25] at H
                      exact absurd H (by simp)
                · replace c15 := Bool.eq_false_iff.mpr c15
                  subst c15
                  have H1 : (if x5_2 ≥ (a0.size : Int) then (some (([] : List (S34)), false, 0, (⟨#[]⟩ : ByteArray), 15)) else (if 0 ≤ (wrap64 (x5_2 + 1)) then (if (wrap64 (x5_2 + 1)) ≤ (a0.size : Int) then (if (a0.extract ((wrap64 (x5_2 + 1)) : Int).toNat a0.size).toList = ([86] : List UInt8) then (if (x172000_2.length : Int) > 16 then (some (([] : List (S34)), false, 0, (⟨#[]⟩ : ByteArray), 4)) else (some (x172000_2, true, 0, (⟨#[]⟩ : ByteArray), 0))) else ((keystoneref2_Type.f kj10 (a0.extract ((wrap64 (x5_2 + 1)) : Int).toNat a0.size)).bind fun bt179 => (if bt179.2.2 = 0 then (if (x172000_2.length : Int) > 16 then (some (([] : List (S34)), false, 0, (⟨#[]⟩ : ByteArray), 4)) else (some (x172000_2, false, bt179.1, bt179.2.1, 0))) else (some (([] : List (S34)), false, 0, (⟨#[]⟩ : ByteArray), 15))))) else (none)) else (none))) = some (r1, r2, r3, r4, r5) := by rw [if_neg (show ¬ (false = true) by decide)] at H; exact H
                  clear H
                  have H := H1
                  clear H1
                  by_cases c36 : x5_2 ≥ (a0.size : Int)
                  · rw [if_pos c36] at H
                    have c36b0 : decide ((a0.size : Int) ≤ x5_2) = true := decide_eq_true c36
                    clear c36
                    simp only [Option.some.injEq, Prod.mk.injEq] at H
                    obtain ⟨rfl, rfl, rfl, rfl, rfl⟩ := H
                    have hnb37 := NB170_171.out
                    have hnc37 := NB171_170.out
                    obtain ⟨hcz38_0, hcz38_1, hcz38_2, hcz38_3, hfz38_0, hfz38_1, hfz38_2, hfz38_3⟩ := c4_ BK170.out
                    go_wp2
                    refine bodyPost_ret (results_ct rfl _ _ gb170 39 #[.slice none 0 0, .bool false, .int .i64 0, .string (⟨#[]⟩ : ByteArray)] (0, 0) _ rfl P_ Tryd.underlying39 rfl (by kernel_rfl)) rfl ?_
                    exact ⟨_, E_, by first | exact Kd.R_nil _ _ _ _ _ | exact Kd.N_nil _ _ _ _ _ | exact Kd.V_nil _ _ _ _ _ | exact Kd.Q_nil _ _ _ _ _ | exact Kd.S_nil _ _ _ _ _, B_⟩
                  · rw [if_neg c36] at H
                    have c36b0 : decide ((a0.size : Int) ≤ x5_2) = false := decide_eq_false c36
                    clear c36
                    obtain ⟨ji39, hji39⟩ : ∃ j_ : Int, (wrap64 (x5_2 + 1)) = j_ := ⟨_, rfl⟩
                    replace H : (if 0 ≤ (ji39) then (if (ji39) ≤ (a0.size : Int) then (if (a0.extract ((ji39) : Int).toNat a0.size).toList = ([86] : List UInt8) then (if (x172000_2.length : Int) > 16 then (some (([] : List (S34)), false, 0, (⟨#[]⟩ : ByteArray), 4)) else (some (x172000_2, true, 0, (⟨#[]⟩ : ByteArray), 0))) else ((keystoneref2_Type.f kj10 (a0.extract ((ji39) : Int).toNat a0.size)).bind fun bt179 => (if bt179.2.2 = 0 then (if (x172000_2.length : Int) > 16 then (some (([] : List (S34)), false, 0, (⟨#[]⟩ : ByteArray), 4)) else (some (x172000_2, false, bt179.1, bt179.2.1, 0))) else (some (([] : List (S34)), false, 0, (⟨#[]⟩ : ByteArray), 15))))) else (none)) else (none)) = some (r1, r2, r3, r4, r5) := by first | (rw [hji39] at H; exact H) | (simp only [hji39] at H ⊢; exact H)
                    have hji39w : (IntKind.i64.wrap (x5_2 + 1)) = ji39 := (i64_w _).trans hji39
                    by_cases c40 : 0 ≤ (ji39)
                    · rw [if_pos c40] at H
                      have c40b0 := eq_true c40
                      have c40b1 : decide (0 ≤ (ji39)) = true := decide_eq_true c40
                      clear c40
                      by_cases c41 : (ji39) ≤ (a0.size : Int)
                      · rw [if_pos c41] at H
                        have c41b0 := eq_true c41
                        have c41b1 : decide ((ji39) ≤ (a0.size : Int)) = true := decide_eq_true c41
                        clear c41
                        by_cases c42 : (a0.extract ((ji39) : Int).toNat a0.size).toList = ([86] : List UInt8)
                        · rw [if_pos c42] at H
                          have c42b0 : ((a0.extract ((ji39) : Int).toNat a0.size).toList == ([86] : List UInt8)) = true := beq_iff_eq.mpr c42
                          (try (have c42b0e := c42b0; rw [ByteArray.size_extract, Nat.min_self] at c42b0e))
                          have c42b1 : ((a0.extract ((ji39) : Int).toNat a0.size).toList != ([86] : List UInt8)) = false := bne_eq_false_iff_eq.mpr c42
                          (try (have c42b1e := c42b1; rw [ByteArray.size_extract, Nat.min_self] at c42b1e))
                          clear c42
                          by_cases c43 : (x172000_2.length : Int) > 16
                          · rw [if_pos c43] at H
                            have c43b0 : decide (16 < (x172000_2.length : Int)) = true := decide_eq_true c43
                            have c43b1 : decide (16 < x172000_2.length) = true := decide_eq_true (by omega)
                            clear c43
                            simp only [Option.some.injEq, Prod.mk.injEq] at H
                            obtain ⟨rfl, rfl, rfl, rfl, rfl⟩ := H
                            have hnb44 := NB171_170.out
                            have hnc44 := NB170_171.out
                            obtain ⟨hcz45_0, hcz45_1, hcz45_2, hcz45_3, hfz45_0, hfz45_1, hfz45_2, hfz45_3⟩ := c4_ BK171.out
                            obtain ⟨Ao46, co46, eo46⟩ := Kd.R_slice HO_172000.out
                            subst eo46
                            obtain ⟨hcz47_0, hcz47_1, hcz47_2, hcz47_3, hfz47_0, hfz47_1, hfz47_2, hfz47_3⟩ := c4_ BK170.out
                            go_wp2
                            refine bodyPost_ret (results_ct rfl _ _ gb170 39 #[.slice none 0 0, .bool false, .int .i64 0, .string (⟨#[]⟩ : ByteArray)] (0, 0) _ rfl P_ Tryd.underlying39 rfl (by kernel_rfl)) rfl ?_
                            exact ⟨_, by first | rfl | (simp [errW_none, errW_some] <;> rfl) | (simp only [← hji39]; first | rfl | (simp [errW_none, errW_some] <;> rfl)) | (simp [*, errW_none, errW_some] <;> rfl), by first | exact Kd.R_nil _ _ _ _ _ | exact Kd.N_nil _ _ _ _ _ | exact Kd.V_nil _ _ _ _ _ | exact Kd.Q_nil _ _ _ _ _ | exact Kd.S_nil _ _ _ _ _, B_⟩
                          · rw [if_neg c43] at H
                            have c43b0 : decide (16 < (x172000_2.length : Int)) = false := decide_eq_false c43
                            have c43b1 : decide (16 < x172000_2.length) = false := decide_eq_false (by omega)
                            clear c43
                            simp only [Option.some.injEq, Prod.mk.injEq] at H
                            obtain ⟨rfl, rfl, rfl, rfl, rfl⟩ := H
                            have hnb48 := NB171_170.out
                            have hnc48 := NB170_171.out
                            obtain ⟨hcz49_0, hcz49_1, hcz49_2, hcz49_3, hfz49_0, hfz49_1, hfz49_2, hfz49_3⟩ := c4_ BK171.out
                            obtain ⟨Ao50, co50, eo50⟩ := Kd.R_slice HO_172000.out
                            subst eo50
                            obtain ⟨hcz51_0, hcz51_1, hcz51_2, hcz51_3, hfz51_0, hfz51_1, hfz51_2, hfz51_3⟩ := c4_ BK170.out
                            go_wp2
                            refine bodyPost_ret (results_ct rfl _ _ gb170 39 #[.slice Ao50 x172000_2.length co50, .bool true, .int .i64 0, .string (⟨#[]⟩ : ByteArray)] (0, 0) _ rfl P_ Tryd.underlying39 rfl (by kernel_rfl)) rfl ?_
                            exact ⟨_, by first | rfl | (simp [errW_none, errW_some] <;> rfl) | (simp only [← hji39]; first | rfl | (simp [errW_none, errW_some] <;> rfl)) | (simp [*, errW_none, errW_some] <;> rfl), by (with_reducible repeat (first | apply Kd.R_alloc | apply Kd.R_drewN | apply Kd.R_drew)); exact Kd.R_mono (Kd.R_far (p := ⟨gb170, 3, none⟩) (Kd.R_far (p := ⟨gb170, 2, none⟩) (Kd.R_far (p := ⟨gb170, 1, none⟩) (Kd.R_far (p := ⟨gb170, 0, none⟩) (Kd.R_far (p := ⟨gb171, 1, none⟩) (Kd.R_types (Kd.R_types HO_172000.out BK171.out (by decide)) BK170.out (by decide)) (fun _ hk => hk.1.2) (.bool true)) (fun _ hk => hk.2) (.slice Ao50 x172000_2.length co50)) (fun _ hk => hk.2) (.bool true)) (fun _ hk => hk.2) (.int .i64 0)) (fun _ hk => hk.2) (.string (⟨#[]⟩ : ByteArray))) (fun _ hk => trivial), B_⟩
                        · rw [if_neg c42] at H
                          have c42b0 : ((a0.extract ((ji39) : Int).toNat a0.size).toList == ([86] : List UInt8)) = false := beq_eq_false_iff_ne.mpr c42
                          (try (have c42b0e := c42b0; rw [ByteArray.size_extract, Nat.min_self] at c42b0e))
                          have c42b1 : ((a0.extract ((ji39) : Int).toNat a0.size).toList != ([86] : List UInt8)) = true := bne_iff_ne.mpr c42
                          (try (have c42b1e := c42b1; rw [ByteArray.size_extract, Nat.min_self] at c42b1e))
                          have c52b0 := eq_true (of_decide_eq_true A_ : 0 ≤ (ji39))
                          have c53b0 := eq_true (of_decide_eq_true A_ : (ji39) ≤ (a0.size : Int))
                          replace H := Option.bind_eq_some_iff.mp H
                          obtain ⟨⟨t179, t180, t181⟩, A540, H⟩ := H
                          replace H : (if t181 = 0 then (if (x172000_2.length : Int) > 16 then (some (([] : List (S34)), false, 0, (⟨#[]⟩ : ByteArray), 4)) else (some (x172000_2, false, t179, t180, 0))) else (some (([] : List (S34)), false, 0, (⟨#[]⟩ : ByteArray), 15))) = some (r1, r2, r3, r4, r5) := H
                          have A54 := Aside0.mk A540
                          clear A540
                          by_cases c55 : t181 = 0
                          · rw [if_pos c55] at H
                            have c55b0 : (t181 == 0) = true := beq_iff_eq.mpr c55
                            have c55b1 : (t181 != 0) = false := bne_eq_false_iff_eq.mpr c55
                            clear c55
                            by_cases c56 : (x172000_2.length : Int) > 16
                            · rw [if_pos c56] at H
                              have c56b0 : decide (16 < (x172000_2.length : Int)) = true := decide_eq_true c56
                              have c56b1 : decide (16 < x172000_2.length) = true := decide_eq_true (by omega)
                              clear c56
                              simp only [Option.some.injEq, Prod.mk.injEq] at H
                              obtain ⟨rfl, rfl, rfl, rfl, rfl⟩ := H
                              go_wp2_with (first | ((with_reducible refine gate_callee (f := 84) rfl ?_); refine goesL_ (some 60) rfl rfl Tryd.func84 (by kernel_rfl) rfl #[.string (a0.extract ((ji39) : Int).toNat a0.size)] rfl (by (try simp only [List.map_toArray, List.map_cons, List.map_nil]); first | done | (simp only [hji39]; rfl) | rfl | (simp only [List.length_drop, List.length_take]; rfl)) ?_; (with_reducible refine (keystoneref2_Type.calls kj10 (a0.extract ((ji39) : Int).toNat a0.size) t179 t180 t181 _ A54.out).mono ?_); rintro e w57 ⟨rfl, hb⟩; refine ⟨_, rfl, ?_⟩; have HO_172000 := rb_ HO_172000 hb; have BK170 := kb_ BK170 hb; have BK171 := kb_ BK171 hb; have HB := bs_ hb; (try clear hb); (try clear hb2); (try clear hk); (try clear hi)) | ((with_reducible refine d_ 8 ?_); refine X_ 8 #[.int .i64 0, .string (⟨#[]⟩ : ByteArray)] 34 ?_; intro gb182 hg w58 hbox hb; have HO_172000 := Aside0.mk (Kd.R_below (Kd.R_elderB (Q_ HO_172000.out) gb182 (Nat.le_of_eq hg.symm)) hb); have BK182 := Aside0.mk hbox; have GW182 := Aside0.mk (s_ hg); have GE182 := GW182; have NB170_182 := Aside0.mk (xx_ hg BK170); have BK170 := kb_ BK170 hb; have NB182_170 := Aside0.mk NB170_182.out.symm; have NB171_182 := Aside0.mk (xx_ hg BK171); have BK171 := kb_ BK171 hb; have NB182_171 := Aside0.mk NB171_182.out.symm; have HB := bs_ hb; clear hb hbox hg; have hnb59 := NB182_170.out; have hnc59 := NB170_182.out; have hnb60 := NB182_171.out; have hnc60 := NB171_182.out; obtain ⟨hcz61_0, hcz61_1, hfz61_0, hfz61_1⟩ := c2_ BK182.out; have hnb62 := NB171_170.out; have hnc62 := NB170_171.out; obtain ⟨hcz63_0, hcz63_1, hcz63_2, hcz63_3, hfz63_0, hfz63_1, hfz63_2, hfz63_3⟩ := c4_ BK171.out; obtain ⟨Ao64, co64, eo64⟩ := Kd.R_slice HO_172000.out; subst eo64; obtain ⟨hcz65_0, hcz65_1, hcz65_2, hcz65_3, hfz65_0, hfz65_1, hfz65_2, hfz65_3⟩ := c4_ BK170.out))
                              refine bodyPost_ret (results_ct rfl _ _ gb170 39 #[.slice none 0 0, .bool false, .int .i64 0, .string (⟨#[]⟩ : ByteArray)] (0, 0) _ rfl P_ Tryd.underlying39 rfl (by kernel_rfl)) rfl ?_
                              exact ⟨_, by first | rfl | (simp [errW_none, errW_some] <;> rfl) | (simp only [← hji39]; first | rfl | (simp [errW_none, errW_some] <;> rfl)) | (simp [*, errW_none, errW_some] <;> rfl), by first | exact Kd.R_nil _ _ _ _ _ | exact Kd.N_nil _ _ _ _ _ | exact Kd.V_nil _ _ _ _ _ | exact Kd.Q_nil _ _ _ _ _ | exact Kd.S_nil _ _ _ _ _, B_⟩
                            · rw [if_neg c56] at H
                              have c56b0 : decide (16 < (x172000_2.length : Int)) = false := decide_eq_false c56
                              have c56b1 : decide (16 < x172000_2.length) = false := decide_eq_false (by omega)
                              clear c56
                              simp only [Option.some.injEq, Prod.mk.injEq] at H
                              obtain ⟨rfl, rfl, rfl, rfl, rfl⟩ := H
                              go_wp2_with (first | ((with_reducible refine gate_callee (f := 84) rfl ?_); refine goesL_ (some 60) rfl rfl Tryd.func84 (by kernel_rfl) rfl #[.string (a0.extract ((ji39) : Int).toNat a0.size)] rfl (by (try simp only [List.map_toArray, List.map_cons, List.map_nil]); first | done | (simp only [hji39]; rfl) | rfl | (simp only [List.length_drop, List.length_take]; rfl)) ?_; (with_reducible refine (keystoneref2_Type.calls kj10 (a0.extract ((ji39) : Int).toNat a0.size) t179 t180 t181 _ A54.out).mono ?_); rintro e w66 ⟨rfl, hb⟩; refine ⟨_, rfl, ?_⟩; have HO_172000 := rb_ HO_172000 hb; have BK170 := kb_ BK170 hb; have BK171 := kb_ BK171 hb; have HB := bs_ hb; (try clear hb); (try clear hb2); (try clear hk); (try clear hi)) | ((with_reducible refine d_ 8 ?_); refine X_ 8 #[.int .i64 0, .string (⟨#[]⟩ : ByteArray)] 34 ?_; intro gb182 hg w67 hbox hb; have HO_172000 := Aside0.mk (Kd.R_below (Kd.R_elderB (Q_ HO_172000.out) gb182 (Nat.le_of_eq hg.symm)) hb); have BK182 := Aside0.mk hbox; have GW182 := Aside0.mk (s_ hg); have GE182 := GW182; have NB170_182 := Aside0.mk (xx_ hg BK170); have BK170 := kb_ BK170 hb; have NB182_170 := Aside0.mk NB170_182.out.symm; have NB171_182 := Aside0.mk (xx_ hg BK171); have BK171 := kb_ BK171 hb; have NB182_171 := Aside0.mk NB171_182.out.symm; have HB := bs_ hb; clear hb hbox hg; have hnb68 := NB182_170.out; have hnc68 := NB170_182.out; have hnb69 := NB182_171.out; have hnc69 := NB171_182.out; obtain ⟨hcz70_0, hcz70_1, hfz70_0, hfz70_1⟩ := c2_ BK182.out; have hnb71 := NB171_170.out; have hnc71 := NB170_171.out; obtain ⟨hcz72_0, hcz72_1, hcz72_2, hcz72_3, hfz72_0, hfz72_1, hfz72_2, hfz72_3⟩ := c4_ BK171.out; obtain ⟨Ao73, co73, eo73⟩ := Kd.R_slice HO_172000.out; subst eo73; obtain ⟨hcz74_0, hcz74_1, hcz74_2, hcz74_3, hfz74_0, hfz74_1, hfz74_2, hfz74_3⟩ := c4_ BK170.out))
                              refine bodyPost_ret (results_ct rfl _ _ gb170 39 #[.slice Ao73 x172000_2.length co73, .bool false, .int .i64 t179, .string t180] (0, 0) _ rfl P_ Tryd.underlying39 rfl (by kernel_rfl)) rfl ?_
                              exact ⟨_, by first | rfl | (simp [errW_none, errW_some] <;> rfl) | (simp only [← hji39]; first | rfl | (simp [errW_none, errW_some] <;> rfl)) | (simp [*, errW_none, errW_some] <;> rfl), by (with_reducible repeat (first | apply Kd.R_alloc | apply Kd.R_drewN | apply Kd.R_drew)); exact Kd.R_mono (Kd.R_far (p := ⟨gb170, 3, none⟩) (Kd.R_far (p := ⟨gb170, 2, none⟩) (Kd.R_far (p := ⟨gb170, 1, none⟩) (Kd.R_far (p := ⟨gb170, 0, none⟩) (Kd.R_far (p := ⟨gb171, 3, none⟩) (Kd.R_far (p := ⟨gb171, 2, none⟩) (Kd.R_far (p := ⟨gb182, 1, none⟩) (Kd.R_far (p := ⟨gb182, 0, none⟩) (Kd.R_types (Kd.R_types (Kd.R_mono HO_172000.out (fun k_ hk => (⟨hk, hk.2⟩ : _ ∧ k_ ≠ gb182))) BK171.out (by decide)) BK170.out (by decide)) (fun _ hk => hk.1.1.2) (.int .i64 t179)) (fun _ hk => hk.1.1.2) (.string t180)) (fun _ hk => hk.1.2) (.int .i64 t179)) (fun _ hk => hk.1.2) (.string t180)) (fun _ hk => hk.2) (.slice Ao73 x172000_2.length co73)) (fun _ hk => hk.2) (.bool false)) (fun _ hk => hk.2) (.int .i64 t179)) (fun _ hk => hk.2) (.string t180)) (fun _ hk => trivial), B_⟩
                          · rw [if_neg c55] at H
                            have c55b0 : (t181 == 0) = false := beq_eq_false_iff_ne.mpr c55
                            have c55b1 : (t181 != 0) = true := bne_iff_ne.mpr c55
                            simp only [Option.some.injEq, Prod.mk.injEq] at H
                            obtain ⟨rfl, rfl, rfl, rfl, rfl⟩ := H
                            go_wp2_with (first | ((with_reducible refine gate_callee (f := 84) rfl ?_); refine goesL_ (some 60) rfl rfl Tryd.func84 (by kernel_rfl) rfl #[.string (a0.extract ((ji39) : Int).toNat a0.size)] rfl (by (try simp only [List.map_toArray, List.map_cons, List.map_nil]); first | done | (simp only [hji39]; rfl) | rfl | (simp only [List.length_drop, List.length_take]; rfl)) ?_; (with_reducible refine (keystoneref2_Type.calls kj10 (a0.extract ((ji39) : Int).toNat a0.size) t179 t180 t181 _ A54.out).mono ?_); rintro e w75 ⟨rfl, hb⟩; refine ⟨_, rfl, ?_⟩; have HO_172000 := rb_ HO_172000 hb; have BK170 := kb_ BK170 hb; have BK171 := kb_ BK171 hb; have HB := bs_ hb; (try clear hb); (try clear hb2); (try clear hk); (try clear hi)) | ((with_reducible refine d_ 8 ?_); refine X_ 8 #[.int .i64 0, .string (⟨#[]⟩ : ByteArray)] 34 ?_; intro gb182 hg w76 hbox hb; have HO_172000 := Aside0.mk (Kd.R_below (Kd.R_elderB (Q_ HO_172000.out) gb182 (Nat.le_of_eq hg.symm)) hb); have BK182 := Aside0.mk hbox; have GW182 := Aside0.mk (s_ hg); have GE182 := GW182; have NB170_182 := Aside0.mk (xx_ hg BK170); have BK170 := kb_ BK170 hb; have NB182_170 := Aside0.mk NB170_182.out.symm; have NB171_182 := Aside0.mk (xx_ hg BK171); have BK171 := kb_ BK171 hb; have NB182_171 := Aside0.mk NB171_182.out.symm; have HB := bs_ hb; clear hb hbox hg; have hnb77 := NB182_170.out; have hnc77 := NB170_182.out; have hnb78 := NB182_171.out; have hnc78 := NB171_182.out; obtain ⟨hcz79_0, hcz79_1, hfz79_0, hfz79_1⟩ := c2_ BK182.out; have hnb80 := NB170_171.out; have hnc80 := NB171_170.out; obtain ⟨hcz81_0, hcz81_1, hcz81_2, hcz81_3, hfz81_0, hfz81_1, hfz81_2, hfz81_3⟩ := c4_ BK170.out))
                            refine bodyPost_ret (results_ct rfl _ _ gb170 39 #[.slice none 0 0, .bool false, .int .i64 0, .string (⟨#[]⟩ : ByteArray)] (0, 0) _ rfl P_ Tryd.underlying39 rfl (by kernel_rfl)) rfl ?_
                            exact ⟨_, by first | rfl | (simp [errW_none, errW_some] <;> rfl) | (simp only [← hji39]; first | rfl | (simp [errW_none, errW_some] <;> rfl)) | (simp [*, errW_none, errW_some] <;> rfl), by first | exact Kd.R_nil _ _ _ _ _ | exact Kd.N_nil _ _ _ _ _ | exact Kd.V_nil _ _ _ _ _ | exact Kd.Q_nil _ _ _ _ _ | exact Kd.S_nil _ _ _ _ _, B_⟩
                      · rw [if_neg c41] at H
                        exact absurd H (by simp)
                    · rw [if_neg c40] at H
                      exact absurd H (by simp)
def keystoneref2_Method.f (k : Nat) (a0 : ByteArray) : Option (Bool) := if a0.toList = ([60, 105, 110, 105, 116, 62] : List UInt8) then (some true) else ((keystoneref2_Name.f k a0).bind fun t183 => (some t183))
theorem keystoneref2_Method.mono : ∀ a0 k, LeO (keystoneref2_Method.f k a0) (keystoneref2_Method.f (k + 1) a0) := by
  intro a0 k
  unfold keystoneref2_Method.f
  repeat' first
      | (with_reducible exact keystoneref2_Name.mono _ _)
      | (with_reducible exact LeO.refl _)
      | (with_reducible exact LeO.none _)
      | (with_reducible refine LeO.ite ?_ ?_)
      | (with_reducible refine LeO.bind ?_ (fun _ => ?_))
      | exact keystoneref2_Name.mono _ _
      | exact LeO.none _
      | refine LeO.ite ?_ ?_
      | refine LeO.bind ?_ (fun _ => ?_)
set_option maxHeartbeats 8000000 in
set_option maxRecDepth 100000 in
theorem keystoneref2_Method.calls (k : Nat) (a0 : ByteArray) (r : Bool) (w : World) (h : keystoneref2_Method.f k a0 = some r) :
    Calls Tryd.prog 96 #[.string a0] w fun e w' => e = .returned (.bool r) ∧ Drawn0 w w' := by
  have H : (if a0.toList = ([60, 105, 110, 105, 116, 62] : List UInt8) then (some true) else ((keystoneref2_Name.f k a0).bind fun t183 => (some t183))) = some r := h
  clear h
  by_cases c2 : a0.toList = ([60, 105, 110, 105, 116, 62] : List UInt8)
  · rw [if_pos c2] at H
    have c2b0 : (a0.toList == ([60, 105, 110, 105, 116, 62] : List UInt8)) = true := beq_iff_eq.mpr c2
    have c2b1 : (a0.toList != ([60, 105, 110, 105, 116, 62] : List UInt8)) = false := bne_eq_false_iff_eq.mpr c2
    clear c2
    obtain rfl := Option.some.inj H
    go_enter Tryd.func96, Tryd.ntmps96
    go_wp2
    go_ret
    exact ⟨by first | rfl | (simp; done) | (simp [*]; done) | (simp [wrap64]; done), by repeat (first | exact Drawn0.refl _ | apply Drawn0.step)⟩
  · rw [if_neg c2] at H
    have c2b0 : (a0.toList == ([60, 105, 110, 105, 116, 62] : List UInt8)) = false := beq_eq_false_iff_ne.mpr c2
    have c2b1 : (a0.toList != ([60, 105, 110, 105, 116, 62] : List UInt8)) = true := bne_iff_ne.mpr c2
    replace H := Option.bind_eq_some_iff.mp H
    obtain ⟨t183, A30, H⟩ := H
    replace H : (some t183) = some r := H
    have A3 := Aside0.mk A30
    clear A30
    obtain rfl := Option.some.inj H
    go_enter Tryd.func96, Tryd.ntmps96
    go_wp2_with (first | (go_at_call 91; (with_reducible refine (keystoneref2_Name.calls k a0 t183 _ A3.out).mono ?_); rintro e w' ⟨rfl, ⟨nd, rfl⟩⟩))
    go_ret
    exact ⟨by first | rfl | (simp; done) | (simp [*]; done) | (simp [wrap64]; done), by repeat (first | exact Drawn0.refl _ | apply Drawn0.step)⟩
def keystoneref3_text.f (k : Nat) (l0 : List (S50)) (a1 : Int) (a2 : Int) : Option (Int) := (keystoneref3_is.f l0 a1 1).bind fun t184 => (if t184 = true then (if 0 ≤ a1 then (if a1 < (l0.length : Int) then (if a2 = 1 then ((keystoneref2_Name.f k ((rd_T50 l0 a1).f1)).bind fun t186 => (if t186 = true then (some 0) else (some 14))) else (if a2 = 2 then ((keystoneref2_Method.f k ((rd_T50 l0 a1).f1)).bind fun t187 => (if t187 = true then (some 0) else (some 14))) else (if a2 = 3 then ((keystoneref2_Type.f k ((rd_T50 l0 a1).f1)).bind fun bt188 => (some bt188.2.2)) else (if a2 = 4 then ((keystoneref2_Sig.f k ((rd_T50 l0 a1).f1)).bind fun bt192 => (some bt192.2.2.2.2)) else (some 0))))) else (none)) else (none)) else (some 16))
theorem keystoneref3_text.mono : ∀ a0 a1 a2 k, LeO (keystoneref3_text.f k a0 a1 a2) (keystoneref3_text.f (k + 1) a0 a1 a2) := by
  intro a0 a1 a2 k
  unfold keystoneref3_text.f
  repeat' first
      | (with_reducible exact keystoneref2_Method.mono _ _)
      | (with_reducible exact keystoneref2_Name.mono _ _)
      | (with_reducible exact keystoneref2_Sig.mono _ _)
      | (with_reducible exact keystoneref2_Type.mono _ _)
      | (with_reducible exact LeO.refl _)
      | (with_reducible exact LeO.none _)
      | (with_reducible refine LeO.ite ?_ ?_)
      | (with_reducible refine LeO.bind ?_ (fun _ => ?_))
      | exact keystoneref2_Method.mono _ _
      | exact keystoneref2_Name.mono _ _
      | exact keystoneref2_Sig.mono _ _
      | exact keystoneref2_Type.mono _ _
      | exact LeO.none _
      | refine LeO.ite ?_ ?_
      | refine LeO.bind ?_ (fun _ => ?_)
set_option maxHeartbeats 8000000 in
set_option maxRecDepth 100000 in
theorem keystoneref3_text.calls (k : Nat) (A0 : Option Addr) (c0 : Nat) (l0 : List (S50)) (a1 : Int) (a2 : Int) (r : Int) (w : World) (hr0 : Kd.C k50 w A0 l0.length l0) (hc0 : l0.length ≤ c0) (h : keystoneref3_text.f k l0 a1 a2 = some r) :
    Calls Tryd.prog 78 #[.slice A0 l0.length c0, .int .i64 a1, .int .i64 a2] w fun e w' => e = .returned (.int .i64 r) ∧ Below w.heap.size w w' := by
  have hu34 := Tryd.underlying34
  have hu39 := Tryd.underlying39
  have HR0 := Aside0.mk hr0
  have HC0 := Aside0.mk hc0
  clear hr0 hc0
  have HB := Aside0.mk (Below.refl w.heap.size w)
  have H : ((keystoneref3_is.f l0 a1 1).bind fun t184 => (if t184 = true then (if 0 ≤ a1 then (if a1 < (l0.length : Int) then (if a2 = 1 then ((keystoneref2_Name.f k ((rd_T50 l0 a1).f1)).bind fun t186 => (if t186 = true then (some 0) else (some 14))) else (if a2 = 2 then ((keystoneref2_Method.f k ((rd_T50 l0 a1).f1)).bind fun t187 => (if t187 = true then (some 0) else (some 14))) else (if a2 = 3 then ((keystoneref2_Type.f k ((rd_T50 l0 a1).f1)).bind fun bt188 => (some bt188.2.2)) else (if a2 = 4 then ((keystoneref2_Sig.f k ((rd_T50 l0 a1).f1)).bind fun bt192 => (some bt192.2.2.2.2)) else (some 0))))) else (none)) else (none)) else (some 16))) = some r := h
  clear h
  replace H := Option.bind_eq_some_iff.mp H
  obtain ⟨t184, A40, H⟩ := H
  replace H : (if t184 = true then (if 0 ≤ a1 then (if a1 < (l0.length : Int) then (if a2 = 1 then ((keystoneref2_Name.f k ((rd_T50 l0 a1).f1)).bind fun t186 => (if t186 = true then (some 0) else (some 14))) else (if a2 = 2 then ((keystoneref2_Method.f k ((rd_T50 l0 a1).f1)).bind fun t187 => (if t187 = true then (some 0) else (some 14))) else (if a2 = 3 then ((keystoneref2_Type.f k ((rd_T50 l0 a1).f1)).bind fun bt188 => (some bt188.2.2)) else (if a2 = 4 then ((keystoneref2_Sig.f k ((rd_T50 l0 a1).f1)).bind fun bt192 => (some bt192.2.2.2.2)) else (some 0))))) else (none)) else (none)) else (some 16)) = some r := H
  have A4 := Aside0.mk A40
  clear A40
  by_cases c5 : t184 = true
  · subst c5
    have H1 : (if 0 ≤ a1 then (if a1 < (l0.length : Int) then (if a2 = 1 then ((keystoneref2_Name.f k ((rd_T50 l0 a1).f1)).bind fun t186 => (if t186 = true then (some 0) else (some 14))) else (if a2 = 2 then ((keystoneref2_Method.f k ((rd_T50 l0 a1).f1)).bind fun t187 => (if t187 = true then (some 0) else (some 14))) else (if a2 = 3 then ((keystoneref2_Type.f k ((rd_T50 l0 a1).f1)).bind fun bt188 => (some bt188.2.2)) else (if a2 = 4 then ((keystoneref2_Sig.f k ((rd_T50 l0 a1).f1)).bind fun bt192 => (some bt192.2.2.2.2)) else (some 0))))) else (none)) else (none)) = some r := by rw [if_pos rfl] at H; exact H
    clear H
    have H := H1
    clear H1
    by_cases c6 : 0 ≤ a1
    · rw [if_pos c6] at H
      have c6b0 : decide (0 ≤ a1) = true := decide_eq_true c6
      clear c6
      by_cases c7 : a1 < (l0.length : Int)
      · rw [if_pos c7] at H
        have c7b0 : decide (a1 < (l0.length : Int)) = true := decide_eq_true c7
        clear c7
        by_cases c8 : a2 = 1
        · rw [if_pos c8] at H
          have c8b0 : (a2 == 1) = true := beq_iff_eq.mpr c8
          have c8b1 : (a2 != 1) = false := bne_eq_false_iff_eq.mpr c8
          clear c8
          replace H := Option.bind_eq_some_iff.mp H
          obtain ⟨t186, A90, H⟩ := H
          replace H : (if t186 = true then (some 0) else (some 14)) = some r := H
          have A9 := Aside0.mk A90
          clear A90
          by_cases c10 : t186 = true
          · subst c10
            have H1 : (some 0) = some r := by rw [if_pos rfl] at H; exact H
            clear H
            have H := H1
            clear H1
            obtain rfl := Option.some.inj H
            go_enter Tryd.func78, Tryd.ntmps78
            go_wp2_with (first | ((with_reducible refine gt_ 79 ?_); refine gd_ 14 Tryd.func79 (keystoneref3_is.calls _ _ l0 a1 1 true _ (Y_ HR0.out) HC0.out A4.out) ?_; rintro w' ⟨nd, rfl⟩; have p185 : 0 ≤ (a1 : Int) := of_decide_eq_true A_; have q185 : a1 < (l0.length : Int) := of_decide_eq_true A_; obtain ⟨ad185, e185, hx185_0, hx185_1, hx185_2, hx185_3, hx185_4, hx185_5⟩ := at_T50 HR0.out a1 p185 q185; cases e185; replace p185 := eq_true p185; replace q185 := eq_true q185) | ((with_reducible refine gt_ 91 ?_); refine gd_ 25 Tryd.func91 (keystoneref2_Name.calls k ((rd_T50 l0 a1).f1) true _ A9.out) ?_; rintro w' ⟨nd, rfl⟩))
            go_ret
            exact ⟨E_, B_⟩
          · replace c10 := Bool.eq_false_iff.mpr c10
            subst c10
            have H1 : (some 14) = some r := by rw [if_neg (show ¬ (false = true) by decide)] at H; exact H
            clear H
            have H := H1
            clear H1
            obtain rfl := Option.some.inj H
            go_enter Tryd.func78, Tryd.ntmps78
            go_wp2_with (first | ((with_reducible refine gt_ 79 ?_); refine gd_ 14 Tryd.func79 (keystoneref3_is.calls _ _ l0 a1 1 true _ (Y_ HR0.out) HC0.out A4.out) ?_; rintro w' ⟨nd, rfl⟩; have p185 : 0 ≤ (a1 : Int) := of_decide_eq_true A_; have q185 : a1 < (l0.length : Int) := of_decide_eq_true A_; obtain ⟨ad185, e185, hx185_0, hx185_1, hx185_2, hx185_3, hx185_4, hx185_5⟩ := at_T50 HR0.out a1 p185 q185; cases e185; replace p185 := eq_true p185; replace q185 := eq_true q185) | ((with_reducible refine gt_ 91 ?_); refine gd_ 25 Tryd.func91 (keystoneref2_Name.calls k ((rd_T50 l0 a1).f1) false _ A9.out) ?_; rintro w' ⟨nd, rfl⟩))
            go_ret
            exact ⟨E_, B_⟩
        · rw [if_neg c8] at H
          have c8b0 : (a2 == 1) = false := beq_eq_false_iff_ne.mpr c8
          have c8b1 : (a2 != 1) = true := bne_iff_ne.mpr c8
          by_cases c11 : a2 = 2
          · rw [if_pos c11] at H
            have c11b0 : (a2 == 2) = true := beq_iff_eq.mpr c11
            have c11b1 : (a2 != 2) = false := bne_eq_false_iff_eq.mpr c11
            clear c11
            replace H := Option.bind_eq_some_iff.mp H
            obtain ⟨t187, A120, H⟩ := H
            replace H : (if t187 = true then (some 0) else (some 14)) = some r := H
            have A12 := Aside0.mk A120
            clear A120
            by_cases c13 : t187 = true
            · subst c13
              have H1 : (some 0) = some r := by rw [if_pos rfl] at H; exact H
              clear H
              have H := H1
              clear H1
              obtain rfl := Option.some.inj H
              go_enter Tryd.func78, Tryd.ntmps78
              go_wp2_with (first | ((with_reducible refine gt_ 79 ?_); refine gd_ 14 Tryd.func79 (keystoneref3_is.calls _ _ l0 a1 1 true _ (Y_ HR0.out) HC0.out A4.out) ?_; rintro w' ⟨nd, rfl⟩; have p185 : 0 ≤ (a1 : Int) := of_decide_eq_true A_; have q185 : a1 < (l0.length : Int) := of_decide_eq_true A_; obtain ⟨ad185, e185, hx185_0, hx185_1, hx185_2, hx185_3, hx185_4, hx185_5⟩ := at_T50 HR0.out a1 p185 q185; cases e185; replace p185 := eq_true p185; replace q185 := eq_true q185) | ((with_reducible refine gt_ 96 ?_); refine gd_ 30 Tryd.func96 (keystoneref2_Method.calls k ((rd_T50 l0 a1).f1) true _ A12.out) ?_; rintro w' ⟨nd, rfl⟩))
              go_ret
              exact ⟨E_, B_⟩
            · replace c13 := Bool.eq_false_iff.mpr c13
              subst c13
              have H1 : (some 14) = some r := by rw [if_neg (show ¬ (false = true) by decide)] at H; exact H
              clear H
              have H := H1
              clear H1
              obtain rfl := Option.some.inj H
              go_enter Tryd.func78, Tryd.ntmps78
              go_wp2_with (first | ((with_reducible refine gt_ 79 ?_); refine gd_ 14 Tryd.func79 (keystoneref3_is.calls _ _ l0 a1 1 true _ (Y_ HR0.out) HC0.out A4.out) ?_; rintro w' ⟨nd, rfl⟩; have p185 : 0 ≤ (a1 : Int) := of_decide_eq_true A_; have q185 : a1 < (l0.length : Int) := of_decide_eq_true A_; obtain ⟨ad185, e185, hx185_0, hx185_1, hx185_2, hx185_3, hx185_4, hx185_5⟩ := at_T50 HR0.out a1 p185 q185; cases e185; replace p185 := eq_true p185; replace q185 := eq_true q185) | ((with_reducible refine gt_ 96 ?_); refine gd_ 30 Tryd.func96 (keystoneref2_Method.calls k ((rd_T50 l0 a1).f1) false _ A12.out) ?_; rintro w' ⟨nd, rfl⟩))
              go_ret
              exact ⟨E_, B_⟩
          · rw [if_neg c11] at H
            have c11b0 : (a2 == 2) = false := beq_eq_false_iff_ne.mpr c11
            have c11b1 : (a2 != 2) = true := bne_iff_ne.mpr c11
            by_cases c14 : a2 = 3
            · rw [if_pos c14] at H
              have c14b0 : (a2 == 3) = true := beq_iff_eq.mpr c14
              have c14b1 : (a2 != 3) = false := bne_eq_false_iff_eq.mpr c14
              clear c14
              replace H := Option.bind_eq_some_iff.mp H
              obtain ⟨⟨t188, t189, t190⟩, A150, H⟩ := H
              replace H : (some t190) = some r := H
              have A15 := Aside0.mk A150
              clear A150
              obtain rfl := Option.some.inj H
              go_enter Tryd.func78, Tryd.ntmps78
              go_wp2_with (first | ((with_reducible refine gt_ 79 ?_); refine gd_ 14 Tryd.func79 (keystoneref3_is.calls _ _ l0 a1 1 true _ (Y_ HR0.out) HC0.out A4.out) ?_; rintro w' ⟨nd, rfl⟩; have p185 : 0 ≤ (a1 : Int) := of_decide_eq_true A_; have q185 : a1 < (l0.length : Int) := of_decide_eq_true A_; obtain ⟨ad185, e185, hx185_0, hx185_1, hx185_2, hx185_3, hx185_4, hx185_5⟩ := at_T50 HR0.out a1 p185 q185; cases e185; replace p185 := eq_true p185; replace q185 := eq_true q185) | ((with_reducible refine gt_ 84 ?_); refine gd_ 36 Tryd.func84 (keystoneref2_Type.calls k ((rd_T50 l0 a1).f1) t188 t189 t190 _ A15.out) ?_; intro w16 hb; have HB := bs_ hb; (try clear hb); (try clear hb2); (try clear hk); (try clear hi)) | ((with_reducible refine d_ 8 ?_); refine X_ 8 #[.int .i64 0, .string (⟨#[]⟩ : ByteArray)] 34 ?_; intro gb191 hg w17 hbox hb; have BK191 := Aside0.mk hbox; have GW191 := Aside0.mk (s_ hg); have GE191 := GW191; have HB := bs_ hb; clear hb hbox hg; obtain ⟨hcz18_0, hcz18_1, hfz18_0, hfz18_1⟩ := c2_ BK191.out))
              go_ret
              exact ⟨E_, B_⟩
            · rw [if_neg c14] at H
              have c14b0 : (a2 == 3) = false := beq_eq_false_iff_ne.mpr c14
              have c14b1 : (a2 != 3) = true := bne_iff_ne.mpr c14
              by_cases c19 : a2 = 4
              · rw [if_pos c19] at H
                have c19b0 : (a2 == 4) = true := beq_iff_eq.mpr c19
                have c19b1 : (a2 != 4) = false := bne_eq_false_iff_eq.mpr c19
                clear c19
                replace H := Option.bind_eq_some_iff.mp H
                obtain ⟨⟨t192, t195, t196, t197, t198⟩, A200, H⟩ := H
                replace H : (some t198) = some r := H
                have A20 := Aside0.mk A200
                clear A200
                obtain rfl := Option.some.inj H
                go_enter Tryd.func78, Tryd.ntmps78
                go_wp2_with (first | ((with_reducible refine gt_ 79 ?_); refine gd_ 14 Tryd.func79 (keystoneref3_is.calls _ _ l0 a1 1 true _ (Y_ HR0.out) HC0.out A4.out) ?_; rintro w' ⟨nd, rfl⟩; have p185 : 0 ≤ (a1 : Int) := of_decide_eq_true A_; have q185 : a1 < (l0.length : Int) := of_decide_eq_true A_; obtain ⟨ad185, e185, hx185_0, hx185_1, hx185_2, hx185_3, hx185_4, hx185_5⟩ := at_T50 HR0.out a1 p185 q185; cases e185; replace p185 := eq_true p185; replace q185 := eq_true q185) | ((with_reducible refine gt_ 85 ?_); refine gc_ 44 Tryd.func85 #[.string ((rd_T50 l0 a1).f1)] ?_; (with_reducible refine (keystoneref2_Sig.calls k ((rd_T50 l0 a1).f1) t192 t195 t196 t197 t198 _ A20.out).mono ?_); rintro e w21 ⟨v193, rfl, ho0, hb⟩; refine ⟨_, rfl, ?_⟩; have HO194 := Aside0.mk (Kd.R_lower ho0 (below_size B_)); have HB := bs_ hb; (try clear hb); (try clear hb2); (try clear hk); (try clear hi); (try clear ho0)) | ((with_reducible refine d_ 10 ?_); refine X_ 10 #[.slice none 0 0, .bool false, .int .i64 0, .string (⟨#[]⟩ : ByteArray)] 39 ?_; intro gb199 hg w22 hbox hb; have HO194 := rb_ HO194 hb; have BK199 := Aside0.mk hbox; have GW199 := Aside0.mk (s_ hg); have GE199 := GW199; have HB := bs_ hb; clear hb hbox hg; obtain ⟨Ao23, co23, eo23⟩ := Kd.R_slice HO194.out; subst eo23; obtain ⟨hcz24_0, hcz24_1, hcz24_2, hcz24_3, hfz24_0, hfz24_1, hfz24_2, hfz24_3⟩ := c4_ BK199.out))
                go_ret
                exact ⟨E_, B_⟩
              · rw [if_neg c19] at H
                have c19b0 : (a2 == 4) = false := beq_eq_false_iff_ne.mpr c19
                have c19b1 : (a2 != 4) = true := bne_iff_ne.mpr c19
                obtain rfl := Option.some.inj H
                go_enter Tryd.func78, Tryd.ntmps78
                go_wp2_with (first | ((with_reducible refine gt_ 79 ?_); refine gd_ 14 Tryd.func79 (keystoneref3_is.calls _ _ l0 a1 1 true _ (Y_ HR0.out) HC0.out A4.out) ?_; rintro w' ⟨nd, rfl⟩; have p185 : 0 ≤ (a1 : Int) := of_decide_eq_true A_; have q185 : a1 < (l0.length : Int) := of_decide_eq_true A_; obtain ⟨ad185, e185, hx185_0, hx185_1, hx185_2, hx185_3, hx185_4, hx185_5⟩ := at_T50 HR0.out a1 p185 q185; cases e185; replace p185 := eq_true p185; replace q185 := eq_true q185))
                go_ret
                exact ⟨E_, B_⟩
      · rw [if_neg c7] at H
        exact absurd H (by simp)
    · rw [if_neg c6] at H
      exact absurd H (by simp)
  · replace c5 := Bool.eq_false_iff.mpr c5
    subst c5
    have H1 : (some 16) = some r := by rw [if_neg (show ¬ (false = true) by decide)] at H; exact H
    clear H
    have H := H1
    clear H1
    obtain rfl := Option.some.inj H
    go_enter Tryd.func78, Tryd.ntmps78
    go_wp2_with (first | ((with_reducible refine gt_ 79 ?_); refine gd_ 14 Tryd.func79 (keystoneref3_is.calls _ _ l0 a1 1 false _ (Y_ HR0.out) HC0.out A4.out) ?_; rintro w' ⟨nd, rfl⟩))
    go_ret
    exact ⟨E_, B_⟩
end Go.Proofs.YtldejfkplnejjaaDoor.P
