-- Written by my program xprint.py (a patched run of the kit's print). Lean checks it.
import Derived.Test.YtldejfkplnejjaaDoorP0
import Derived.Test.YtldejfkplnejjaaDoorExt
import Derived.Test.YtldejfkplnejjaaDoorShort
import Derived.Test.YtldejfkplnejjaaDoorShort2
namespace Go.Proofs.YtldejfkplnejjaaDoor.P
open Go.RowKit Go.Proofs.YtldejfkplnejjaaDoorW.PrintWords Go.Proofs.YtldejfkplnejjaaDoorW.PrintLast Go.Proofs.YtldejfkplnejjaaDoorW.PrintMore
attribute [local go_sem] max2_int min2_int max_two min_two max_three min_three max_four min_four   -- for this text's walks alone
set_option linter.unusedVariables false
set_option linter.unusedSimpArgs false
def desc_letter.f (a0 : Int) (a1 : Bool) : Option (Bool) := if a0 ≥ 97 then (if a0 ≤ 122 then (some true) else (if a0 ≥ 65 then (if a0 ≤ 90 then (some true) else (if a0 = 95 then (some true) else (if a1 = true then (some false) else (if a0 ≥ 48 then (some (decide (a0 ≤ 57))) else (some false))))) else (if a0 = 95 then (some true) else (if a1 = true then (some false) else (if a0 ≥ 48 then (some (decide (a0 ≤ 57))) else (some false)))))) else (if a0 ≥ 65 then (if a0 ≤ 90 then (some true) else (if a0 = 95 then (some true) else (if a1 = true then (some false) else (if a0 ≥ 48 then (some (decide (a0 ≤ 57))) else (some false))))) else (if a0 = 95 then (some true) else (if a1 = true then (some false) else (if a0 ≥ 48 then (some (decide (a0 ≤ 57))) else (some false)))))
set_option maxHeartbeats 8000000 in
set_option maxRecDepth 100000 in
theorem desc_letter.calls (a0 : Int) (a1 : Bool) (r : Bool) (w : World) (h : desc_letter.f a0 a1 = some r) :
    Calls Tryd.prog 103 #[.int .u8 a0, .bool a1] w fun e w' => e = .returned (.bool r) ∧ Drawn0 w w' := by
  have H : (if a0 ≥ 97 then (if a0 ≤ 122 then (some true) else (if a0 ≥ 65 then (if a0 ≤ 90 then (some true) else (if a0 = 95 then (some true) else (if a1 = true then (some false) else (if a0 ≥ 48 then (some (decide (a0 ≤ 57))) else (some false))))) else (if a0 = 95 then (some true) else (if a1 = true then (some false) else (if a0 ≥ 48 then (some (decide (a0 ≤ 57))) else (some false)))))) else (if a0 ≥ 65 then (if a0 ≤ 90 then (some true) else (if a0 = 95 then (some true) else (if a1 = true then (some false) else (if a0 ≥ 48 then (some (decide (a0 ≤ 57))) else (some false))))) else (if a0 = 95 then (some true) else (if a1 = true then (some false) else (if a0 ≥ 48 then (some (decide (a0 ≤ 57))) else (some false)))))) = some r := h
  clear h
  by_cases c3 : a0 ≥ 97
  · rw [if_pos c3] at H
    have c3b0 : decide (97 ≤ a0) = true := decide_eq_true c3
    clear c3
    by_cases c4 : a0 ≤ 122
    · rw [if_pos c4] at H
      have c4b0 : decide (a0 ≤ 122) = true := decide_eq_true c4
      clear c4
      obtain rfl := Option.some.inj H
      go_enter Tryd.func103, Tryd.ntmps103
      go_wp2
      go_ret
      exact ⟨by first | rfl | (simp; done) | (simp [*]; done) | (simp [wrap64]; done), by repeat (first | exact Drawn0.refl _ | apply Drawn0.step)⟩
    · rw [if_neg c4] at H
      have c4b0 : decide (a0 ≤ 122) = false := decide_eq_false c4
      clear c4
      by_cases c5 : a0 ≥ 65
      · rw [if_pos c5] at H
        have c5b0 : decide (65 ≤ a0) = true := decide_eq_true c5
        clear c5
        by_cases c6 : a0 ≤ 90
        · rw [if_pos c6] at H
          have c6b0 : decide (a0 ≤ 90) = true := decide_eq_true c6
          clear c6
          obtain rfl := Option.some.inj H
          go_enter Tryd.func103, Tryd.ntmps103
          go_wp2
          go_ret
          exact ⟨by first | rfl | (simp; done) | (simp [*]; done) | (simp [wrap64]; done), by repeat (first | exact Drawn0.refl _ | apply Drawn0.step)⟩
        · rw [if_neg c6] at H
          have c6b0 : decide (a0 ≤ 90) = false := decide_eq_false c6
          clear c6
          by_cases c7 : a0 = 95
          · rw [if_pos c7] at H
            have c7b0 : (a0 == 95) = true := beq_iff_eq.mpr c7
            have c7b1 : (a0 != 95) = false := bne_eq_false_iff_eq.mpr c7
            clear c7
            obtain rfl := Option.some.inj H
            go_enter Tryd.func103, Tryd.ntmps103
            go_wp2
            go_ret
            exact ⟨by first | rfl | (simp; done) | (simp [*]; done) | (simp [wrap64]; done), by repeat (first | exact Drawn0.refl _ | apply Drawn0.step)⟩
          · rw [if_neg c7] at H
            have c7b0 : (a0 == 95) = false := beq_eq_false_iff_ne.mpr c7
            have c7b1 : (a0 != 95) = true := bne_iff_ne.mpr c7
            by_cases c8 : a1 = true
            · subst c8
              have H1 : (some false) = some r := by rw [if_pos rfl] at H; exact H
              clear H
              have H := H1
              clear H1
              obtain rfl := Option.some.inj H
              go_enter Tryd.func103, Tryd.ntmps103
              go_wp2
              go_ret
              exact ⟨by first | rfl | (simp; done) | (simp [*]; done) | (simp [wrap64]; done), by repeat (first | exact Drawn0.refl _ | apply Drawn0.step)⟩
            · replace c8 := Bool.eq_false_iff.mpr c8
              subst c8
              have H1 : (if a0 ≥ 48 then (some (decide (a0 ≤ 57))) else (some false)) = some r := by rw [if_neg (show ¬ (false = true) by decide)] at H; exact H
              clear H
              have H := H1
              clear H1
              by_cases c9 : a0 ≥ 48
              · rw [if_pos c9] at H
                have c9b0 : decide (48 ≤ a0) = true := decide_eq_true c9
                clear c9
                obtain rfl := Option.some.inj H
                go_enter Tryd.func103, Tryd.ntmps103
                go_wp2
                go_ret
                exact ⟨by first | rfl | (simp; done) | (simp [*]; done) | (simp [wrap64]; done), by repeat (first | exact Drawn0.refl _ | apply Drawn0.step)⟩
              · rw [if_neg c9] at H
                have c9b0 : decide (48 ≤ a0) = false := decide_eq_false c9
                clear c9
                obtain rfl := Option.some.inj H
                go_enter Tryd.func103, Tryd.ntmps103
                go_wp2
                go_ret
                exact ⟨by first | rfl | (simp; done) | (simp [*]; done) | (simp [wrap64]; done), by repeat (first | exact Drawn0.refl _ | apply Drawn0.step)⟩
      · rw [if_neg c5] at H
        have c5b0 : decide (65 ≤ a0) = false := decide_eq_false c5
        clear c5
        by_cases c10 : a0 = 95
        · rw [if_pos c10] at H
          have c10b0 : (a0 == 95) = true := beq_iff_eq.mpr c10
          have c10b1 : (a0 != 95) = false := bne_eq_false_iff_eq.mpr c10
          clear c10
          obtain rfl := Option.some.inj H
          go_enter Tryd.func103, Tryd.ntmps103
          go_wp2
          go_ret
          exact ⟨by first | rfl | (simp; done) | (simp [*]; done) | (simp [wrap64]; done), by repeat (first | exact Drawn0.refl _ | apply Drawn0.step)⟩
        · rw [if_neg c10] at H
          have c10b0 : (a0 == 95) = false := beq_eq_false_iff_ne.mpr c10
          have c10b1 : (a0 != 95) = true := bne_iff_ne.mpr c10
          by_cases c11 : a1 = true
          · subst c11
            have H1 : (some false) = some r := by rw [if_pos rfl] at H; exact H
            clear H
            have H := H1
            clear H1
            obtain rfl := Option.some.inj H
            go_enter Tryd.func103, Tryd.ntmps103
            go_wp2
            go_ret
            exact ⟨by first | rfl | (simp; done) | (simp [*]; done) | (simp [wrap64]; done), by repeat (first | exact Drawn0.refl _ | apply Drawn0.step)⟩
          · replace c11 := Bool.eq_false_iff.mpr c11
            subst c11
            have H1 : (if a0 ≥ 48 then (some (decide (a0 ≤ 57))) else (some false)) = some r := by rw [if_neg (show ¬ (false = true) by decide)] at H; exact H
            clear H
            have H := H1
            clear H1
            by_cases c12 : a0 ≥ 48
            · rw [if_pos c12] at H
              have c12b0 : decide (48 ≤ a0) = true := decide_eq_true c12
              clear c12
              obtain rfl := Option.some.inj H
              go_enter Tryd.func103, Tryd.ntmps103
              go_wp2
              go_ret
              exact ⟨by first | rfl | (simp; done) | (simp [*]; done) | (simp [wrap64]; done), by repeat (first | exact Drawn0.refl _ | apply Drawn0.step)⟩
            · rw [if_neg c12] at H
              have c12b0 : decide (48 ≤ a0) = false := decide_eq_false c12
              clear c12
              obtain rfl := Option.some.inj H
              go_enter Tryd.func103, Tryd.ntmps103
              go_wp2
              go_ret
              exact ⟨by first | rfl | (simp; done) | (simp [*]; done) | (simp [wrap64]; done), by repeat (first | exact Drawn0.refl _ | apply Drawn0.step)⟩
  · rw [if_neg c3] at H
    have c3b0 : decide (97 ≤ a0) = false := decide_eq_false c3
    clear c3
    by_cases c13 : a0 ≥ 65
    · rw [if_pos c13] at H
      have c13b0 : decide (65 ≤ a0) = true := decide_eq_true c13
      clear c13
      by_cases c14 : a0 ≤ 90
      · rw [if_pos c14] at H
        have c14b0 : decide (a0 ≤ 90) = true := decide_eq_true c14
        clear c14
        obtain rfl := Option.some.inj H
        go_enter Tryd.func103, Tryd.ntmps103
        go_wp2
        go_ret
        exact ⟨by first | rfl | (simp; done) | (simp [*]; done) | (simp [wrap64]; done), by repeat (first | exact Drawn0.refl _ | apply Drawn0.step)⟩
      · rw [if_neg c14] at H
        have c14b0 : decide (a0 ≤ 90) = false := decide_eq_false c14
        clear c14
        by_cases c15 : a0 = 95
        · rw [if_pos c15] at H
          have c15b0 : (a0 == 95) = true := beq_iff_eq.mpr c15
          have c15b1 : (a0 != 95) = false := bne_eq_false_iff_eq.mpr c15
          clear c15
          obtain rfl := Option.some.inj H
          go_enter Tryd.func103, Tryd.ntmps103
          go_wp2
          go_ret
          exact ⟨by first | rfl | (simp; done) | (simp [*]; done) | (simp [wrap64]; done), by repeat (first | exact Drawn0.refl _ | apply Drawn0.step)⟩
        · rw [if_neg c15] at H
          have c15b0 : (a0 == 95) = false := beq_eq_false_iff_ne.mpr c15
          have c15b1 : (a0 != 95) = true := bne_iff_ne.mpr c15
          by_cases c16 : a1 = true
          · subst c16
            have H1 : (some false) = some r := by rw [if_pos rfl] at H; exact H
            clear H
            have H := H1
            clear H1
            obtain rfl := Option.some.inj H
            go_enter Tryd.func103, Tryd.ntmps103
            go_wp2
            go_ret
            exact ⟨by first | rfl | (simp; done) | (simp [*]; done) | (simp [wrap64]; done), by repeat (first | exact Drawn0.refl _ | apply Drawn0.step)⟩
          · replace c16 := Bool.eq_false_iff.mpr c16
            subst c16
            have H1 : (if a0 ≥ 48 then (some (decide (a0 ≤ 57))) else (some false)) = some r := by rw [if_neg (show ¬ (false = true) by decide)] at H; exact H
            clear H
            have H := H1
            clear H1
            by_cases c17 : a0 ≥ 48
            · rw [if_pos c17] at H
              have c17b0 : decide (48 ≤ a0) = true := decide_eq_true c17
              clear c17
              obtain rfl := Option.some.inj H
              go_enter Tryd.func103, Tryd.ntmps103
              go_wp2
              go_ret
              exact ⟨by first | rfl | (simp; done) | (simp [*]; done) | (simp [wrap64]; done), by repeat (first | exact Drawn0.refl _ | apply Drawn0.step)⟩
            · rw [if_neg c17] at H
              have c17b0 : decide (48 ≤ a0) = false := decide_eq_false c17
              clear c17
              obtain rfl := Option.some.inj H
              go_enter Tryd.func103, Tryd.ntmps103
              go_wp2
              go_ret
              exact ⟨by first | rfl | (simp; done) | (simp [*]; done) | (simp [wrap64]; done), by repeat (first | exact Drawn0.refl _ | apply Drawn0.step)⟩
    · rw [if_neg c13] at H
      have c13b0 : decide (65 ≤ a0) = false := decide_eq_false c13
      clear c13
      by_cases c18 : a0 = 95
      · rw [if_pos c18] at H
        have c18b0 : (a0 == 95) = true := beq_iff_eq.mpr c18
        have c18b1 : (a0 != 95) = false := bne_eq_false_iff_eq.mpr c18
        clear c18
        obtain rfl := Option.some.inj H
        go_enter Tryd.func103, Tryd.ntmps103
        go_wp2
        go_ret
        exact ⟨by first | rfl | (simp; done) | (simp [*]; done) | (simp [wrap64]; done), by repeat (first | exact Drawn0.refl _ | apply Drawn0.step)⟩
      · rw [if_neg c18] at H
        have c18b0 : (a0 == 95) = false := beq_eq_false_iff_ne.mpr c18
        have c18b1 : (a0 != 95) = true := bne_iff_ne.mpr c18
        by_cases c19 : a1 = true
        · subst c19
          have H1 : (some false) = some r := by rw [if_pos rfl] at H; exact H
          clear H
          have H := H1
          clear H1
          obtain rfl := Option.some.inj H
          go_enter Tryd.func103, Tryd.ntmps103
          go_wp2
          go_ret
          exact ⟨by first | rfl | (simp; done) | (simp [*]; done) | (simp [wrap64]; done), by repeat (first | exact Drawn0.refl _ | apply Drawn0.step)⟩
        · replace c19 := Bool.eq_false_iff.mpr c19
          subst c19
          have H1 : (if a0 ≥ 48 then (some (decide (a0 ≤ 57))) else (some false)) = some r := by rw [if_neg (show ¬ (false = true) by decide)] at H; exact H
          clear H
          have H := H1
          clear H1
          by_cases c20 : a0 ≥ 48
          · rw [if_pos c20] at H
            have c20b0 : decide (48 ≤ a0) = true := decide_eq_true c20
            clear c20
            obtain rfl := Option.some.inj H
            go_enter Tryd.func103, Tryd.ntmps103
            go_wp2
            go_ret
            exact ⟨by first | rfl | (simp; done) | (simp [*]; done) | (simp [wrap64]; done), by repeat (first | exact Drawn0.refl _ | apply Drawn0.step)⟩
          · rw [if_neg c20] at H
            have c20b0 : decide (48 ≤ a0) = false := decide_eq_false c20
            clear c20
            obtain rfl := Option.some.inj H
            go_enter Tryd.func103, Tryd.ntmps103
            go_wp2
            go_ret
            exact ⟨by first | rfl | (simp; done) | (simp [*]; done) | (simp [wrap64]; done), by repeat (first | exact Drawn0.refl _ | apply Drawn0.step)⟩
def desc_Name.l0 : Nat → ByteArray → Int → Int → Option (Bool)
  | 0, _, _, _ => none
  | k + 1, x0, x5, x6 => if x6 < x5 then (if 0 ≤ x6 then (if x6 < (x0.size : Int) then ((desc_letter.f (bt x0 x6) (x6 == 0)).bind fun t101 => (if t101 = true then (desc_Name.l0 k x0 x5 (wrap64 (x6 + 1))) else (some false))) else (none)) else (none)) else (if x0.toList = ([] : List UInt8) then (some false) else (some (decide ((x0.size : Int) ≤ 32))))
def desc_Name.f (k : Nat) (a0 : ByteArray) : Option (Bool) := desc_Name.l0 k a0 (a0.size : Int) 0
set_option maxHeartbeats 8000000 in
set_option maxRecDepth 100000 in
theorem desc_Name.calls (k : Nat) (a0 : ByteArray) (r : Bool) (w : World) (h : desc_Name.f k a0 = some r) :
    Calls Tryd.prog 72 #[.string a0] w fun e w' => e = .returned (.bool r) ∧ Drawn0 w w' := by
  have H : (desc_Name.l0 k a0 (a0.size : Int) 0) = some r := h
  clear h
  have H' := Aside0.mk H
  clear H
  go_enter Tryd.func72, Tryd.ntmps72
  go_wp2
  go_loopg [6] k (fun kq v6 w' => ∃ (x6_1 : Int), v6 = .int .i64 x6_1 ∧ Aside0 (desc_Name.l0 kq a0 (a0.size : Int) x6_1 = some r) ∧ Aside0 (kq ≤ k) ∧ Drawn0 w w')
  case atStart => exact ⟨(0), R_, H', ⟨Nat.le_refl _⟩, by repeat (first | exact Drawn0.refl _ | apply Drawn0.step)⟩
  case round =>
    clear H'
    obtain ⟨x6_1, rfl, HA, HK1, ⟨m1, rfl⟩⟩ := hrel
    cases gk with
    | zero => exact absurd HA.out (by simp [desc_Name.l0])
    | succ k1 =>
      have H := HA.out
      clear HA
      simp only [desc_Name.l0] at H
      by_cases c2 : x6_1 < (a0.size : Int)
      · rw [if_pos c2] at H
        have c2b0 : decide (x6_1 < (a0.size : Int)) = true := decide_eq_true c2
        clear c2
        by_cases c3 : 0 ≤ x6_1
        · rw [if_pos c3] at H
          have c3b0 : decide (0 ≤ x6_1) = true := decide_eq_true c3
          clear c3
          by_cases c4 : x6_1 < (a0.size : Int)
          · rw [if_pos c4] at H
            have c4b0 : decide (x6_1 < (a0.size : Int)) = true := decide_eq_true c4
            clear c4
            replace H := Option.bind_eq_some_iff.mp H
            obtain ⟨t101, A60, H⟩ := H
            replace H : (if t101 = true then (desc_Name.l0 k1 a0 (a0.size : Int) (wrap64 (x6_1 + 1))) else (some false)) = some r := H
            have A6 := Aside0.mk A60
            clear A60
            by_cases c7 : t101 = true
            · subst c7
              have H1 : (desc_Name.l0 k1 a0 (a0.size : Int) (wrap64 (x6_1 + 1))) = some r := by rw [if_pos rfl] at H; exact H
              clear H
              have H := H1
              clear H1
              have H' := Aside0.mk H
              clear H
              have p5 : 0 ≤ (x6_1 : Int) := of_decide_eq_true A_
              have q5 : x6_1 < (a0.size : Int) := of_decide_eq_true A_
              have hx5 := bt_at a0 x6_1
              replace p5 := eq_true p5
              replace q5 := eq_true q5
              go_wp2_with (first | ((with_reducible refine gt_ 103 ?_); refine gd_ 14 Tryd.func103 (desc_letter.calls (bt a0 x6_1) (x6_1 == 0) true _ A6.out) ?_; rintro w' ⟨nd, rfl⟩))
              go_roundg k1
              case measure => have := HK1.out; omega
              case rel => exact ⟨(wrap64 (x6_1 + 1)), R_, H', ⟨by have := HK1.out; omega⟩, by repeat (first | exact Drawn0.refl _ | apply Drawn0.step)⟩
            · replace c7 := Bool.eq_false_iff.mpr c7
              subst c7
              have H1 : (some false) = some r := by rw [if_neg (show ¬ (false = true) by decide)] at H; exact H
              clear H
              have H := H1
              clear H1
              obtain rfl := Option.some.inj H
              have p5 : 0 ≤ (x6_1 : Int) := of_decide_eq_true A_
              have q5 : x6_1 < (a0.size : Int) := of_decide_eq_true A_
              have hx5 := bt_at a0 x6_1
              replace p5 := eq_true p5
              replace q5 := eq_true q5
              go_wp2_with (first | ((with_reducible refine gt_ 103 ?_); refine gd_ 14 Tryd.func103 (desc_letter.calls (bt a0 x6_1) (x6_1 == 0) false _ A6.out) ?_; rintro w' ⟨nd, rfl⟩))
              go_ret
              exact ⟨by first | rfl | (simp; done) | (simp [*]; done) | (simp [wrap64]; done), by repeat (first | exact Drawn0.refl _ | apply Drawn0.step)⟩
          · rw [if_neg c4] at H
            exact absurd H (by simp)
        · rw [if_neg c3] at H
          exact absurd H (by simp)
      · rw [if_neg c2] at H
        have c2b0 : decide (x6_1 < (a0.size : Int)) = false := decide_eq_false c2
        clear c2
        by_cases c8 : a0.toList = ([] : List UInt8)
        · rw [if_pos c8] at H
          have c8b0 : (a0.toList == ([] : List UInt8)) = true := beq_iff_eq.mpr c8
          have c8b1 : (a0.toList != ([] : List UInt8)) = false := bne_eq_false_iff_eq.mpr c8
          clear c8
          obtain rfl := Option.some.inj H
          go_wp2
          go_ret
          exact ⟨by first | rfl | (simp; done) | (simp [*]; done) | (simp [wrap64]; done), by repeat (first | exact Drawn0.refl _ | apply Drawn0.step)⟩
        · rw [if_neg c8] at H
          have c8b0 : (a0.toList == ([] : List UInt8)) = false := beq_eq_false_iff_ne.mpr c8
          have c8b1 : (a0.toList != ([] : List UInt8)) = true := bne_iff_ne.mpr c8
          obtain rfl := Option.some.inj H
          go_wp2
          go_ret
          exact ⟨by first | rfl | (simp; done) | (simp [*]; done) | (simp [wrap64]; done), by repeat (first | exact Drawn0.refl _ | apply Drawn0.step)⟩
def stringslite_HasPrefix.f (a0 : ByteArray) (a1 : ByteArray) : Option (Bool) := if (a0.size : Int) ≥ (a1.size : Int) then (if 0 ≤ (a1.size : Int) then (if (a1.size : Int) ≤ (a0.size : Int) then (some ((a0.extract 0 ((a1.size : Int) : Int).toNat).toList == a1.toList)) else (none)) else (none)) else (some false)
set_option maxHeartbeats 8000000 in
set_option maxRecDepth 100000 in
theorem stringslite_HasPrefix.calls (a0 : ByteArray) (a1 : ByteArray) (r : Bool) (w : World) (h : stringslite_HasPrefix.f a0 a1 = some r) :
    Calls Tryd.prog 112 #[.string a0, .string a1] w fun e w' => e = .returned (.bool r) ∧ Drawn0 w w' := by
  have H : (if (a0.size : Int) ≥ (a1.size : Int) then (if 0 ≤ (a1.size : Int) then (if (a1.size : Int) ≤ (a0.size : Int) then (some ((a0.extract 0 ((a1.size : Int) : Int).toNat).toList == a1.toList)) else (none)) else (none)) else (some false)) = some r := h
  clear h
  by_cases c3 : (a0.size : Int) ≥ (a1.size : Int)
  · rw [if_pos c3] at H
    have c3b0 : decide ((a1.size : Int) ≤ (a0.size : Int)) = true := decide_eq_true c3
    have c3b1 : decide (a1.size ≤ a0.size) = true := decide_eq_true (Int.ofNat_le.mp c3)
    clear c3
    by_cases c4 : 0 ≤ (a1.size : Int)
    · rw [if_pos c4] at H
      have c4b0 := eq_true c4
      have c4b1 : decide (0 ≤ (a1.size : Int)) = true := decide_eq_true c4
      clear c4
      by_cases c5 : (a1.size : Int) ≤ (a0.size : Int)
      · rw [if_pos c5] at H
        have c5b0 := eq_true c5
        have c5b1 : decide ((a1.size : Int) ≤ (a0.size : Int)) = true := decide_eq_true c5
        clear c5
        obtain rfl := Option.some.inj H
        go_enter Tryd.func112, Tryd.ntmps112
        go_wp2
        go_ret
        exact ⟨by first | rfl | (simp; done) | (simp [*]; done) | (simp [wrap64]; done), by repeat (first | exact Drawn0.refl _ | apply Drawn0.step)⟩
      · rw [if_neg c5] at H
        exact absurd H (by simp)
    · rw [if_neg c4] at H
      exact absurd H (by simp)
  · rw [if_neg c3] at H
    have c3b0 : decide ((a1.size : Int) ≤ (a0.size : Int)) = false := decide_eq_false c3
    have c3b1 : decide (a1.size ≤ a0.size) = false := decide_eq_false (fun h => c3 (Int.ofNat_le.mpr h))
    clear c3
    obtain rfl := Option.some.inj H
    go_enter Tryd.func112, Tryd.ntmps112
    go_wp2
    go_ret
    exact ⟨by first | rfl | (simp; done) | (simp [*]; done) | (simp [wrap64]; done), by repeat (first | exact Drawn0.refl _ | apply Drawn0.step)⟩
def strings_HasPrefix.f (a0 : ByteArray) (a1 : ByteArray) : Option (Bool) := (stringslite_HasPrefix.f a0 a1).bind fun t102 => (some t102)
set_option maxHeartbeats 8000000 in
set_option maxRecDepth 100000 in
theorem strings_HasPrefix.calls (a0 : ByteArray) (a1 : ByteArray) (r : Bool) (w : World) (h : strings_HasPrefix.f a0 a1 = some r) :
    Calls Tryd.prog 82 #[.string a0, .string a1] w fun e w' => e = .returned (.bool r) ∧ Drawn0 w w' := by
  have H : ((stringslite_HasPrefix.f a0 a1).bind fun t102 => (some t102)) = some r := h
  clear h
  replace H := Option.bind_eq_some_iff.mp H
  obtain ⟨t102, A30, H⟩ := H
  replace H : (some t102) = some r := H
  have A3 := Aside0.mk A30
  clear A30
  obtain rfl := Option.some.inj H
  go_enter Tryd.func82, Tryd.ntmps82
  go_wp2_with (first | ((with_reducible refine gt_ 112 ?_); refine gd_ 7 Tryd.func112 (stringslite_HasPrefix.calls a0 a1 t102 _ A3.out) ?_; rintro w' ⟨nd, rfl⟩))
  go_ret
  exact ⟨by first | rfl | (simp; done) | (simp [*]; done) | (simp [wrap64]; done), by repeat (first | exact Drawn0.refl _ | apply Drawn0.step)⟩
def stringslite_Cut.f (a0 : ByteArray) (a1 : ByteArray) : Option (ByteArray × ByteArray × Bool) := (stringslite_Index.f a0 a1).bind fun t103 => (if t103 ≥ 0 then (if 0 ≤ t103 then (if t103 ≤ (a0.size : Int) then (if 0 ≤ (wrap64 (t103 + (a1.size : Int))) then (if (wrap64 (t103 + (a1.size : Int))) ≤ (a0.size : Int) then (some (a0.extract 0 (t103 : Int).toNat, a0.extract ((wrap64 (t103 + (a1.size : Int))) : Int).toNat a0.size, true)) else (none)) else (none)) else (none)) else (none)) else (some (a0, (⟨#[]⟩ : ByteArray), false)))
set_option maxHeartbeats 8000000 in
set_option maxRecDepth 100000 in
theorem stringslite_Cut.calls (a0 : ByteArray) (a1 : ByteArray) (r1 : ByteArray) (r2 : ByteArray) (r3 : Bool) (w : World) (h : stringslite_Cut.f a0 a1 = some (r1, r2, r3)) :
    Calls Tryd.prog 127 #[.string a0, .string a1] w fun e w' => e = .returned (.tuple #[.string r1, .string r2, .bool r3]) ∧ Drawn0 w w' := by
  have H : ((stringslite_Index.f a0 a1).bind fun t103 => (if t103 ≥ 0 then (if 0 ≤ t103 then (if t103 ≤ (a0.size : Int) then (if 0 ≤ (wrap64 (t103 + (a1.size : Int))) then (if (wrap64 (t103 + (a1.size : Int))) ≤ (a0.size : Int) then (some (a0.extract 0 (t103 : Int).toNat, a0.extract ((wrap64 (t103 + (a1.size : Int))) : Int).toNat a0.size, true)) else (none)) else (none)) else (none)) else (none)) else (some (a0, (⟨#[]⟩ : ByteArray), false)))) = some (r1, r2, r3) := h
  clear h
  replace H := Option.bind_eq_some_iff.mp H
  obtain ⟨t103, A30, H⟩ := H
  replace H : (if t103 ≥ 0 then (if 0 ≤ t103 then (if t103 ≤ (a0.size : Int) then (if 0 ≤ (wrap64 (t103 + (a1.size : Int))) then (if (wrap64 (t103 + (a1.size : Int))) ≤ (a0.size : Int) then (some (a0.extract 0 (t103 : Int).toNat, a0.extract ((wrap64 (t103 + (a1.size : Int))) : Int).toNat a0.size, true)) else (none)) else (none)) else (none)) else (none)) else (some (a0, (⟨#[]⟩ : ByteArray), false))) = some (r1, r2, r3) := H
  have A3 := Aside0.mk A30
  clear A30
  by_cases c4 : t103 ≥ 0
  · rw [if_pos c4] at H
    have c4b0 : decide (0 ≤ t103) = true := decide_eq_true c4
    clear c4
    by_cases c5 : 0 ≤ t103
    · rw [if_pos c5] at H
      have c5b0 := eq_true c5
      have c5b1 : decide (0 ≤ t103) = true := decide_eq_true c5
      clear c5
      by_cases c6 : t103 ≤ (a0.size : Int)
      · rw [if_pos c6] at H
        have c6b0 := eq_true c6
        have c6b1 : decide (t103 ≤ (a0.size : Int)) = true := decide_eq_true c6
        clear c6
        obtain ⟨ji7, hji7⟩ : ∃ j_ : Int, (wrap64 (t103 + (a1.size : Int))) = j_ := ⟨_, rfl⟩
        replace H : (if 0 ≤ (ji7) then (if (ji7) ≤ (a0.size : Int) then (some (a0.extract 0 (t103 : Int).toNat, a0.extract ((ji7) : Int).toNat a0.size, true)) else (none)) else (none)) = some (r1, r2, r3) := by first | (rw [hji7] at H; exact H) | (simp only [hji7] at H ⊢; exact H)
        (try rw [hji7] at A3)
        have hji7w : (IntKind.i64.wrap (t103 + (a1.size : Int))) = ji7 := (i64_w _).trans hji7
        by_cases c8 : 0 ≤ (ji7)
        · rw [if_pos c8] at H
          have c8b0 := eq_true c8
          have c8b1 : decide (0 ≤ (ji7)) = true := decide_eq_true c8
          clear c8
          by_cases c9 : (ji7) ≤ (a0.size : Int)
          · rw [if_pos c9] at H
            have c9b0 := eq_true c9
            have c9b1 : decide ((ji7) ≤ (a0.size : Int)) = true := decide_eq_true c9
            clear c9
            simp only [Option.some.injEq, Prod.mk.injEq] at H
            obtain ⟨rfl, rfl, rfl⟩ := H
            go_enter Tryd.func127, Tryd.ntmps127
            go_wp2_with (first | (go_at_call 136; (with_reducible refine (stringslite_Index.calls a0 a1 t103 _ A3.out).mono ?_); rintro e w' ⟨rfl, ⟨nd, rfl⟩⟩; (try first | exact ⟨rfl, _, World.drewN_drewN _ _ _⟩ | exact ⟨rfl, _, Eq.trans (World.drewN_drewN _ _ _) (congrArg (World.drewN _) (Nat.add_assoc _ _ _))⟩)))
            repeat (go_quiet (first | (go_at_call 136; (with_reducible refine (stringslite_Index.calls a0 a1 t103 _ A3.out).mono ?_); rintro e w' ⟨rfl, ⟨nd, rfl⟩⟩; (try first | exact ⟨rfl, _, World.drewN_drewN _ _ _⟩ | exact ⟨rfl, _, Eq.trans (World.drewN_drewN _ _ _) (congrArg (World.drewN _) (Nat.add_assoc _ _ _))⟩))); try go_wp2_with (first | (go_at_call 136; (with_reducible refine (stringslite_Index.calls a0 a1 t103 _ A3.out).mono ?_); rintro e w' ⟨rfl, ⟨nd, rfl⟩⟩; (try first | exact ⟨rfl, _, World.drewN_drewN _ _ _⟩ | exact ⟨rfl, _, Eq.trans (World.drewN_drewN _ _ _) (congrArg (World.drewN _) (Nat.add_assoc _ _ _))⟩))))
            go_ret3
            exact ⟨by first | rfl | (simp; done) | (simp only [← hji7] <;> (first | rfl | simp)) | (simp [*]; done), by repeat (first | exact Drawn0.refl _ | apply Drawn0.step)⟩
          · rw [if_neg c9] at H
            exact absurd H (by simp)
        · rw [if_neg c8] at H
          exact absurd H (by simp)
      · rw [if_neg c6] at H
        exact absurd H (by simp)
    · rw [if_neg c5] at H
      exact absurd H (by simp)
  · rw [if_neg c4] at H
    have c4b0 : decide (0 ≤ t103) = false := decide_eq_false c4
    clear c4
    simp only [Option.some.injEq, Prod.mk.injEq] at H
    obtain ⟨rfl, rfl, rfl⟩ := H
    go_enter Tryd.func127, Tryd.ntmps127
    go_wp2_with (first | (go_at_call 136; (with_reducible refine (stringslite_Index.calls a0 a1 t103 _ A3.out).mono ?_); rintro e w' ⟨rfl, ⟨nd, rfl⟩⟩; (try first | exact ⟨rfl, _, World.drewN_drewN _ _ _⟩ | exact ⟨rfl, _, Eq.trans (World.drewN_drewN _ _ _) (congrArg (World.drewN _) (Nat.add_assoc _ _ _))⟩)))
    repeat (go_quiet (first | (go_at_call 136; (with_reducible refine (stringslite_Index.calls a0 a1 t103 _ A3.out).mono ?_); rintro e w' ⟨rfl, ⟨nd, rfl⟩⟩; (try first | exact ⟨rfl, _, World.drewN_drewN _ _ _⟩ | exact ⟨rfl, _, Eq.trans (World.drewN_drewN _ _ _) (congrArg (World.drewN _) (Nat.add_assoc _ _ _))⟩))); try go_wp2_with (first | (go_at_call 136; (with_reducible refine (stringslite_Index.calls a0 a1 t103 _ A3.out).mono ?_); rintro e w' ⟨rfl, ⟨nd, rfl⟩⟩; (try first | exact ⟨rfl, _, World.drewN_drewN _ _ _⟩ | exact ⟨rfl, _, Eq.trans (World.drewN_drewN _ _ _) (congrArg (World.drewN _) (Nat.add_assoc _ _ _))⟩))))
    go_ret3
    exact ⟨by first | rfl | (simp; done) | (simp [*]; done) | (simp [wrap64]; done), by repeat (first | exact Drawn0.refl _ | apply Drawn0.step)⟩
def strings_Cut.f (a0 : ByteArray) (a1 : ByteArray) : Option (ByteArray × ByteArray × Bool) := (stringslite_Cut.f a0 a1).bind fun bt104 => (some (bt104.1, bt104.2.1, bt104.2.2))
set_option maxHeartbeats 8000000 in
set_option maxRecDepth 100000 in
theorem strings_Cut.calls (a0 : ByteArray) (a1 : ByteArray) (r1 : ByteArray) (r2 : ByteArray) (r3 : Bool) (w : World) (h : strings_Cut.f a0 a1 = some (r1, r2, r3)) :
    Calls Tryd.prog 111 #[.string a0, .string a1] w fun e w' => e = .returned (.tuple #[.string r1, .string r2, .bool r3]) ∧ Drawn0 w w' := by
  have H : ((stringslite_Cut.f a0 a1).bind fun bt104 => (some (bt104.1, bt104.2.1, bt104.2.2))) = some (r1, r2, r3) := h
  clear h
  replace H := Option.bind_eq_some_iff.mp H
  obtain ⟨⟨t104, t105, t106⟩, A30, H⟩ := H
  replace H : (some (t104, t105, t106)) = some (r1, r2, r3) := H
  have A3 := Aside0.mk A30
  clear A30
  simp only [Option.some.injEq, Prod.mk.injEq] at H
  obtain ⟨rfl, rfl, rfl⟩ := H
  go_enter Tryd.func111, Tryd.ntmps111
  go_wp2_with (first | ((with_reducible refine gt_ 127 ?_); refine gd_ 9 Tryd.func127 (stringslite_Cut.calls a0 a1 t104 t105 t106 _ A3.out) ?_; rintro w' ⟨nd, rfl⟩))
  go_ret3
  exact ⟨by first | rfl | (simp; done) | (simp [*]; done) | (simp [wrap64]; done), by repeat (first | exact Drawn0.refl _ | apply Drawn0.step)⟩
def desc_first.f (k : Nat) (a0 : ByteArray) : Option (Int × ByteArray × ByteArray × Bool) := (strings_TrimLeft.f a0 (⟨#[91]⟩ : ByteArray)).bind fun t108 => (if (wrap64 ((a0.size : Int) - (t108.size : Int))) > 8 then (some (0, (⟨#[]⟩ : ByteArray), (⟨#[]⟩ : ByteArray), false)) else (if 0 ≤ (wrap64 ((a0.size : Int) - (t108.size : Int))) then (if (wrap64 ((a0.size : Int) - (t108.size : Int))) ≤ (a0.size : Int) then ((strings_HasPrefix.f (a0.extract ((wrap64 ((a0.size : Int) - (t108.size : Int))) : Int).toNat a0.size) (⟨#[73]⟩ : ByteArray)).bind fun t109 => (if t109 = true then (if 1 ≤ ((a0.extract ((wrap64 ((a0.size : Int) - (t108.size : Int))) : Int).toNat a0.size).size : Int) then (some (wrap64 ((a0.size : Int) - (t108.size : Int)), (⟨#[]⟩ : ByteArray), (a0.extract ((wrap64 ((a0.size : Int) - (t108.size : Int))) : Int).toNat a0.size).extract 1 (a0.extract ((wrap64 ((a0.size : Int) - (t108.size : Int))) : Int).toNat a0.size).size, true)) else (none)) else ((strings_Cut.f (a0.extract ((wrap64 ((a0.size : Int) - (t108.size : Int))) : Int).toNat a0.size) (⟨#[59]⟩ : ByteArray)).bind fun bt110 => (if bt110.2.2 = true then ((strings_HasPrefix.f bt110.1 (⟨#[76]⟩ : ByteArray)).bind fun t113 => (if t113 = true then (if 1 ≤ (bt110.1.size : Int) then ((desc_Name.f k (bt110.1.extract 1 bt110.1.size)).bind fun t114 => (if t114 = true then (some (wrap64 ((a0.size : Int) - (t108.size : Int)), bt110.1.extract 1 bt110.1.size, bt110.2.1, true)) else (some (0, (⟨#[]⟩ : ByteArray), (⟨#[]⟩ : ByteArray), false)))) else (none)) else (some (0, (⟨#[]⟩ : ByteArray), (⟨#[]⟩ : ByteArray), false)))) else (some (0, (⟨#[]⟩ : ByteArray), (⟨#[]⟩ : ByteArray), false)))))) else (none)) else (none)))
set_option maxHeartbeats 8000000 in
set_option maxRecDepth 100000 in
theorem desc_first.calls (k : Nat) (a0 : ByteArray) (r1 : Int) (r2 : ByteArray) (r3 : ByteArray) (r4 : Bool) (w : World) (h : desc_first.f k a0 = some (r1, r2, r3, r4)) :
    Calls Tryd.prog 81 #[.string a0] w fun e w' => e = .returned (.tuple #[.agg #[.int .i64 r1, .string r2], .string r3, .bool r4]) ∧ Below w.heap.size w w' := by
  have hu34 := Tryd.underlying34
  have HB := Aside0.mk (Below.refl w.heap.size w)
  have H : ((strings_TrimLeft.f a0 (⟨#[91]⟩ : ByteArray)).bind fun t108 => (if (wrap64 ((a0.size : Int) - (t108.size : Int))) > 8 then (some (0, (⟨#[]⟩ : ByteArray), (⟨#[]⟩ : ByteArray), false)) else (if 0 ≤ (wrap64 ((a0.size : Int) - (t108.size : Int))) then (if (wrap64 ((a0.size : Int) - (t108.size : Int))) ≤ (a0.size : Int) then ((strings_HasPrefix.f (a0.extract ((wrap64 ((a0.size : Int) - (t108.size : Int))) : Int).toNat a0.size) (⟨#[73]⟩ : ByteArray)).bind fun t109 => (if t109 = true then (if 1 ≤ ((a0.extract ((wrap64 ((a0.size : Int) - (t108.size : Int))) : Int).toNat a0.size).size : Int) then (some (wrap64 ((a0.size : Int) - (t108.size : Int)), (⟨#[]⟩ : ByteArray), (a0.extract ((wrap64 ((a0.size : Int) - (t108.size : Int))) : Int).toNat a0.size).extract 1 (a0.extract ((wrap64 ((a0.size : Int) - (t108.size : Int))) : Int).toNat a0.size).size, true)) else (none)) else ((strings_Cut.f (a0.extract ((wrap64 ((a0.size : Int) - (t108.size : Int))) : Int).toNat a0.size) (⟨#[59]⟩ : ByteArray)).bind fun bt110 => (if bt110.2.2 = true then ((strings_HasPrefix.f bt110.1 (⟨#[76]⟩ : ByteArray)).bind fun t113 => (if t113 = true then (if 1 ≤ (bt110.1.size : Int) then ((desc_Name.f k (bt110.1.extract 1 bt110.1.size)).bind fun t114 => (if t114 = true then (some (wrap64 ((a0.size : Int) - (t108.size : Int)), bt110.1.extract 1 bt110.1.size, bt110.2.1, true)) else (some (0, (⟨#[]⟩ : ByteArray), (⟨#[]⟩ : ByteArray), false)))) else (none)) else (some (0, (⟨#[]⟩ : ByteArray), (⟨#[]⟩ : ByteArray), false)))) else (some (0, (⟨#[]⟩ : ByteArray), (⟨#[]⟩ : ByteArray), false)))))) else (none)) else (none)))) = some (r1, r2, r3, r4) := h
  clear h
  replace H := Option.bind_eq_some_iff.mp H
  obtain ⟨t108, A20, H⟩ := H
  replace H : (if (wrap64 ((a0.size : Int) - (t108.size : Int))) > 8 then (some (0, (⟨#[]⟩ : ByteArray), (⟨#[]⟩ : ByteArray), false)) else (if 0 ≤ (wrap64 ((a0.size : Int) - (t108.size : Int))) then (if (wrap64 ((a0.size : Int) - (t108.size : Int))) ≤ (a0.size : Int) then ((strings_HasPrefix.f (a0.extract ((wrap64 ((a0.size : Int) - (t108.size : Int))) : Int).toNat a0.size) (⟨#[73]⟩ : ByteArray)).bind fun t109 => (if t109 = true then (if 1 ≤ ((a0.extract ((wrap64 ((a0.size : Int) - (t108.size : Int))) : Int).toNat a0.size).size : Int) then (some (wrap64 ((a0.size : Int) - (t108.size : Int)), (⟨#[]⟩ : ByteArray), (a0.extract ((wrap64 ((a0.size : Int) - (t108.size : Int))) : Int).toNat a0.size).extract 1 (a0.extract ((wrap64 ((a0.size : Int) - (t108.size : Int))) : Int).toNat a0.size).size, true)) else (none)) else ((strings_Cut.f (a0.extract ((wrap64 ((a0.size : Int) - (t108.size : Int))) : Int).toNat a0.size) (⟨#[59]⟩ : ByteArray)).bind fun bt110 => (if bt110.2.2 = true then ((strings_HasPrefix.f bt110.1 (⟨#[76]⟩ : ByteArray)).bind fun t113 => (if t113 = true then (if 1 ≤ (bt110.1.size : Int) then ((desc_Name.f k (bt110.1.extract 1 bt110.1.size)).bind fun t114 => (if t114 = true then (some (wrap64 ((a0.size : Int) - (t108.size : Int)), bt110.1.extract 1 bt110.1.size, bt110.2.1, true)) else (some (0, (⟨#[]⟩ : ByteArray), (⟨#[]⟩ : ByteArray), false)))) else (none)) else (some (0, (⟨#[]⟩ : ByteArray), (⟨#[]⟩ : ByteArray), false)))) else (some (0, (⟨#[]⟩ : ByteArray), (⟨#[]⟩ : ByteArray), false)))))) else (none)) else (none))) = some (r1, r2, r3, r4) := H
  have A2 := Aside0.mk A20
  clear A20
  by_cases c3 : (wrap64 ((a0.size : Int) - (t108.size : Int))) > 8
  · rw [if_pos c3] at H
    have c3b0 : decide (8 < (wrap64 ((a0.size : Int) - (t108.size : Int)))) = true := decide_eq_true c3
    clear c3
    simp only [Option.some.injEq, Prod.mk.injEq] at H
    obtain ⟨rfl, rfl, rfl, rfl⟩ := H
    go_enter Tryd.func81, Tryd.ntmps81
    go_wp2_with (first | ((with_reducible refine d_ 2 ?_); refine X_ 2 #[.int .i64 0, .string (⟨#[]⟩ : ByteArray)] 34 ?_; intro gb107 hg w4 hbox hb; have BK107 := Aside0.mk hbox; have GW107 := Aside0.mk (s_ hg); have GE107 := GW107; have HB := bs_ hb; clear hb hbox hg) | ((with_reducible refine gt_ 110 ?_); refine gd_ 12 Tryd.func110 (strings_TrimLeft.calls a0 (⟨#[91]⟩ : ByteArray) t108 _ A2.out) ?_; rintro w' ⟨nd, rfl⟩; (try (rw [drewN_self w4]; generalize hq_ : World.drewN w4 _ = w4; have n0_ : Aside0 (w4.heap[gb107]? = some (.cells #[.int .i64 0, .string (⟨#[]⟩ : ByteArray)] 34 (0, 0))) := ⟨by rw [← hq_]; exact M_⟩; have n1_ : Aside0 (Below w.heap.size w w4) := ⟨by rw [← hq_]; exact B_⟩; clear BK107 HB hq_; have BK107 := n0_; have HB := n1_; clear n0_ n1_)); obtain ⟨hcz5_0, hcz5_1, hfz5_0, hfz5_1⟩ := c2_ BK107.out))
    refine bodyPost_ret (results_ctt rfl _ _ gb107 34 #[.int .i64 0, .string (⟨#[]⟩ : ByteArray)] (0, 0) _ rfl P_ Tryd.underlying34 rfl (by kernel_rfl)) rfl ?_
    exact ⟨E_, B_⟩
  · rw [if_neg c3] at H
    have c3b0 : decide (8 < (wrap64 ((a0.size : Int) - (t108.size : Int)))) = false := decide_eq_false c3
    clear c3
    obtain ⟨ji6, hji6⟩ : ∃ j_ : Int, (wrap64 ((a0.size : Int) - (t108.size : Int))) = j_ := ⟨_, rfl⟩
    replace H : (if 0 ≤ (ji6) then (if (ji6) ≤ (a0.size : Int) then ((strings_HasPrefix.f (a0.extract ((ji6) : Int).toNat a0.size) (⟨#[73]⟩ : ByteArray)).bind fun t109 => (if t109 = true then (if 1 ≤ ((a0.extract ((ji6) : Int).toNat a0.size).size : Int) then (some (ji6, (⟨#[]⟩ : ByteArray), (a0.extract ((ji6) : Int).toNat a0.size).extract 1 (a0.extract ((ji6) : Int).toNat a0.size).size, true)) else (none)) else ((strings_Cut.f (a0.extract ((ji6) : Int).toNat a0.size) (⟨#[59]⟩ : ByteArray)).bind fun bt110 => (if bt110.2.2 = true then ((strings_HasPrefix.f bt110.1 (⟨#[76]⟩ : ByteArray)).bind fun t113 => (if t113 = true then (if 1 ≤ (bt110.1.size : Int) then ((desc_Name.f k (bt110.1.extract 1 bt110.1.size)).bind fun t114 => (if t114 = true then (some (ji6, bt110.1.extract 1 bt110.1.size, bt110.2.1, true)) else (some (0, (⟨#[]⟩ : ByteArray), (⟨#[]⟩ : ByteArray), false)))) else (none)) else (some (0, (⟨#[]⟩ : ByteArray), (⟨#[]⟩ : ByteArray), false)))) else (some (0, (⟨#[]⟩ : ByteArray), (⟨#[]⟩ : ByteArray), false)))))) else (none)) else (none)) = some (r1, r2, r3, r4) := by first | (rw [hji6] at H; exact H) | (simp only [hji6] at H ⊢; exact H)
    (try rw [hji6] at c3b0)
    (try rw [hji6] at A2)
    have hji6w : (IntKind.i64.wrap ((a0.size : Int) - (t108.size : Int))) = ji6 := (i64_w _).trans hji6
    by_cases c7 : 0 ≤ (ji6)
    · rw [if_pos c7] at H
      have c7b0 := eq_true c7
      have c7b1 : decide (0 ≤ (ji6)) = true := decide_eq_true c7
      clear c7
      by_cases c8 : (ji6) ≤ (a0.size : Int)
      · rw [if_pos c8] at H
        have c8b0 := eq_true c8
        have c8b1 : decide ((ji6) ≤ (a0.size : Int)) = true := decide_eq_true c8
        clear c8
        replace H := Option.bind_eq_some_iff.mp H
        obtain ⟨t109, A90, H⟩ := H
        replace H : (if t109 = true then (if 1 ≤ ((a0.extract ((ji6) : Int).toNat a0.size).size : Int) then (some (ji6, (⟨#[]⟩ : ByteArray), (a0.extract ((ji6) : Int).toNat a0.size).extract 1 (a0.extract ((ji6) : Int).toNat a0.size).size, true)) else (none)) else ((strings_Cut.f (a0.extract ((ji6) : Int).toNat a0.size) (⟨#[59]⟩ : ByteArray)).bind fun bt110 => (if bt110.2.2 = true then ((strings_HasPrefix.f bt110.1 (⟨#[76]⟩ : ByteArray)).bind fun t113 => (if t113 = true then (if 1 ≤ (bt110.1.size : Int) then ((desc_Name.f k (bt110.1.extract 1 bt110.1.size)).bind fun t114 => (if t114 = true then (some (ji6, bt110.1.extract 1 bt110.1.size, bt110.2.1, true)) else (some (0, (⟨#[]⟩ : ByteArray), (⟨#[]⟩ : ByteArray), false)))) else (none)) else (some (0, (⟨#[]⟩ : ByteArray), (⟨#[]⟩ : ByteArray), false)))) else (some (0, (⟨#[]⟩ : ByteArray), (⟨#[]⟩ : ByteArray), false))))) = some (r1, r2, r3, r4) := H
        have A9 := Aside0.mk A90
        clear A90
        by_cases c10 : t109 = true
        · subst c10
          have H1 : (if 1 ≤ ((a0.extract ((ji6) : Int).toNat a0.size).size : Int) then (some (ji6, (⟨#[]⟩ : ByteArray), (a0.extract ((ji6) : Int).toNat a0.size).extract 1 (a0.extract ((ji6) : Int).toNat a0.size).size, true)) else (none)) = some (r1, r2, r3, r4) := by rw [if_pos rfl] at H; exact H
          clear H
          have H := H1
          clear H1
          by_cases c11 : 1 ≤ ((a0.extract ((ji6) : Int).toNat a0.size).size : Int)
          · rw [if_pos c11] at H
            have c11b0 := eq_true c11
            have c11b1 : decide (1 ≤ ((a0.extract ((ji6) : Int).toNat a0.size).size : Int)) = true := decide_eq_true c11
            (try (have c11e := c11; rw [ByteArray.size_extract, Nat.min_self] at c11e; have c11b0e := eq_true c11e; clear c11e))
            clear c11
            simp only [Option.some.injEq, Prod.mk.injEq] at H
            obtain ⟨rfl, rfl, rfl, rfl⟩ := H
            go_enter Tryd.func81, Tryd.ntmps81
            try go_wp2_with (first | ((with_reducible refine d_ 2 ?_); refine X_ 2 #[.int .i64 0, .string (⟨#[]⟩ : ByteArray)] 34 ?_; intro gb107 hg w12 hbox hb; have BK107 := Aside0.mk hbox; have GW107 := Aside0.mk (s_ hg); have GE107 := GW107; have HB := bs_ hb; clear hb hbox hg) | ((with_reducible refine gt_ 110 ?_); refine gd_ 12 Tryd.func110 (strings_TrimLeft.calls a0 (⟨#[91]⟩ : ByteArray) t108 _ A2.out) ?_; rintro w' ⟨nd, rfl⟩; (try (rw [drewN_self w12]; generalize hq_ : World.drewN w12 _ = w12; have n0_ : Aside0 (w12.heap[gb107]? = some (.cells #[.int .i64 0, .string (⟨#[]⟩ : ByteArray)] 34 (0, 0))) := ⟨by rw [← hq_]; exact M_⟩; have n1_ : Aside0 (Below w.heap.size w w12) := ⟨by rw [← hq_]; exact B_⟩; clear BK107 HB hq_; have BK107 := n0_; have HB := n1_; clear n0_ n1_))) | ((with_reducible refine gate_callee (f := 82) rfl ?_); refine goesL_ (some 22) rfl rfl Tryd.func82 (by kernel_rfl) rfl #[.string (a0.extract ((ji6) : Int).toNat a0.size), .string (⟨#[73]⟩ : ByteArray)] rfl (by (try simp only [List.map_toArray, List.map_cons, List.map_nil]); first | done | (simp only [hji6]; rfl) | rfl | (simp only [List.length_drop, List.length_take]; rfl)) ?_; (with_reducible refine (strings_HasPrefix.calls (a0.extract ((ji6) : Int).toNat a0.size) (⟨#[73]⟩ : ByteArray) true _ A9.out).mono ?_); rintro e w' ⟨rfl, ⟨nd, rfl⟩⟩; refine ⟨_, rfl, ?_⟩; (try (rw [drewN_self w12]; generalize hq_ : World.drewN w12 _ = w12; have n0_ : Aside0 (w12.heap[gb107]? = some (.cells #[.int .i64 0, .string (⟨#[]⟩ : ByteArray)] 34 (0, 0))) := ⟨by rw [← hq_]; exact M_⟩; have n1_ : Aside0 (Below w.heap.size w w12) := ⟨by rw [← hq_]; exact B_⟩; clear BK107 HB hq_; have BK107 := n0_; have HB := n1_; clear n0_ n1_))))
            have n0_ := Aside0.mk (blk_drew BK107.out)
            have n1_ := Aside0.mk (below_drew1 HB.out)
            clear BK107
            clear HB
            have BK107 := n0_
            have HB := n1_
            clear n0_ n1_
            refine start_ (n := 7) (S := fun w' => True) (ds := []) #[false, false, false, false, false, false, false] (by kernel_rfl) rfl rfl trivial (fun hHeld => ?_)
            generalize w12.drew = w13 at BK107 HB hHeld ⊢
            refine u_ 0 23 (bb 7 1) ?_
            refine u_ 1 24 (bb 7 3) ?_
            refine u_ 2 25 (bb 7 7) ?_
            refine u_ 3 26 (bb 7 15) ?_
            refine one_ (i := 4) (N := none) #[true, true, true, true, true, false, false] rfl rfl (by kernel_rfl) (by decide) (fun K hK => ?_)
            have hs14 : w13.cell? ⟨gb107, 0, none⟩ = some (.int .i64 0) := (blk_cell BK107.out 0).trans rfl
            have hfs14 := blk_frozen BK107.out 0
            have hs15 : w13.cell? ⟨gb107, 1, none⟩ = some (.string (⟨#[]⟩ : ByteArray)) := (blk_cell BK107.out 1).trans rfl
            have hfs15 := blk_frozen BK107.out 1
            refine skip_ (w1 := ?_) (by rfl) rfl ?_ ?_
            rotate_left
            · go_simp
              rfl
            refine hK.out _ _ trivial (fun hHeld => ?_)
            clear hK K
            refine u_ 5 3 (bb 7 63) ?_
            refine u_ 6 4 (bb 7 127) ?_
            refine done_ (by kernel_rfl) ?_
            try go_wp2
            refine bodyPost_ret (results_ctt rfl _ _ gb107 34 #[.int .i64 ji6, .string (⟨#[]⟩ : ByteArray)] (0, 0) _ rfl P_ Tryd.underlying34 rfl (by kernel_rfl)) rfl ?_
            exact ⟨by first | rfl | (simp [errW_none, errW_some] <;> rfl) | (simp only [← hji6]; first | rfl | (simp [errW_none, errW_some] <;> rfl)) | (simp [*, errW_none, errW_some] <;> rfl), B_⟩
          · rw [if_neg c11] at H
            exact absurd H (by simp)
        · replace c10 := Bool.eq_false_iff.mpr c10
          subst c10
          have H1 : ((strings_Cut.f (a0.extract ((ji6) : Int).toNat a0.size) (⟨#[59]⟩ : ByteArray)).bind fun bt110 => (if bt110.2.2 = true then ((strings_HasPrefix.f bt110.1 (⟨#[76]⟩ : ByteArray)).bind fun t113 => (if t113 = true then (if 1 ≤ (bt110.1.size : Int) then ((desc_Name.f k (bt110.1.extract 1 bt110.1.size)).bind fun t114 => (if t114 = true then (some (ji6, bt110.1.extract 1 bt110.1.size, bt110.2.1, true)) else (some (0, (⟨#[]⟩ : ByteArray), (⟨#[]⟩ : ByteArray), false)))) else (none)) else (some (0, (⟨#[]⟩ : ByteArray), (⟨#[]⟩ : ByteArray), false)))) else (some (0, (⟨#[]⟩ : ByteArray), (⟨#[]⟩ : ByteArray), false)))) = some (r1, r2, r3, r4) := by rw [if_neg (show ¬ (false = true) by decide)] at H; exact H
          clear H
          have H := H1
          clear H1
          replace H := Option.bind_eq_some_iff.mp H
          obtain ⟨⟨t110, t111, t112⟩, A160, H⟩ := H
          replace H : (if t112 = true then ((strings_HasPrefix.f t110 (⟨#[76]⟩ : ByteArray)).bind fun t113 => (if t113 = true then (if 1 ≤ (t110.size : Int) then ((desc_Name.f k (t110.extract 1 t110.size)).bind fun t114 => (if t114 = true then (some (ji6, t110.extract 1 t110.size, t111, true)) else (some (0, (⟨#[]⟩ : ByteArray), (⟨#[]⟩ : ByteArray), false)))) else (none)) else (some (0, (⟨#[]⟩ : ByteArray), (⟨#[]⟩ : ByteArray), false)))) else (some (0, (⟨#[]⟩ : ByteArray), (⟨#[]⟩ : ByteArray), false))) = some (r1, r2, r3, r4) := H
          have A16 := Aside0.mk A160
          clear A160
          by_cases c17 : t112 = true
          · subst c17
            have H1 : ((strings_HasPrefix.f t110 (⟨#[76]⟩ : ByteArray)).bind fun t113 => (if t113 = true then (if 1 ≤ (t110.size : Int) then ((desc_Name.f k (t110.extract 1 t110.size)).bind fun t114 => (if t114 = true then (some (ji6, t110.extract 1 t110.size, t111, true)) else (some (0, (⟨#[]⟩ : ByteArray), (⟨#[]⟩ : ByteArray), false)))) else (none)) else (some (0, (⟨#[]⟩ : ByteArray), (⟨#[]⟩ : ByteArray), false)))) = some (r1, r2, r3, r4) := by rw [if_pos rfl] at H; exact H
            clear H
            have H := H1
            clear H1
            replace H := Option.bind_eq_some_iff.mp H
            obtain ⟨t113, A180, H⟩ := H
            replace H : (if t113 = true then (if 1 ≤ (t110.size : Int) then ((desc_Name.f k (t110.extract 1 t110.size)).bind fun t114 => (if t114 = true then (some (ji6, t110.extract 1 t110.size, t111, true)) else (some (0, (⟨#[]⟩ : ByteArray), (⟨#[]⟩ : ByteArray), false)))) else (none)) else (some (0, (⟨#[]⟩ : ByteArray), (⟨#[]⟩ : ByteArray), false))) = some (r1, r2, r3, r4) := H
            have A18 := Aside0.mk A180
            clear A180
            by_cases c19 : t113 = true
            · subst c19
              have H1 : (if 1 ≤ (t110.size : Int) then ((desc_Name.f k (t110.extract 1 t110.size)).bind fun t114 => (if t114 = true then (some (ji6, t110.extract 1 t110.size, t111, true)) else (some (0, (⟨#[]⟩ : ByteArray), (⟨#[]⟩ : ByteArray), false)))) else (none)) = some (r1, r2, r3, r4) := by rw [if_pos rfl] at H; exact H
              clear H
              have H := H1
              clear H1
              by_cases c20 : 1 ≤ (t110.size : Int)
              · rw [if_pos c20] at H
                have c20b0 := eq_true c20
                have c20b1 : decide (1 ≤ (t110.size : Int)) = true := decide_eq_true c20
                clear c20
                replace H := Option.bind_eq_some_iff.mp H
                obtain ⟨t114, A210, H⟩ := H
                replace H : (if t114 = true then (some (ji6, t110.extract 1 t110.size, t111, true)) else (some (0, (⟨#[]⟩ : ByteArray), (⟨#[]⟩ : ByteArray), false))) = some (r1, r2, r3, r4) := H
                have A21 := Aside0.mk A210
                clear A210
                by_cases c22 : t114 = true
                · subst c22
                  have H1 : (some (ji6, t110.extract 1 t110.size, t111, true)) = some (r1, r2, r3, r4) := by rw [if_pos rfl] at H; exact H
                  clear H
                  have H := H1
                  clear H1
                  have c23b0 := eq_true (of_decide_eq_true A_ : 1 ≤ (t110.size : Int))
                  simp only [Option.some.injEq, Prod.mk.injEq] at H
                  obtain ⟨rfl, rfl, rfl, rfl⟩ := H
                  go_enter Tryd.func81, Tryd.ntmps81
                  go_wp2_with (first | ((with_reducible refine d_ 2 ?_); refine X_ 2 #[.int .i64 0, .string (⟨#[]⟩ : ByteArray)] 34 ?_; intro gb107 hg w24 hbox hb; have BK107 := Aside0.mk hbox; have GW107 := Aside0.mk (s_ hg); have GE107 := GW107; have HB := bs_ hb; clear hb hbox hg) | ((with_reducible refine gt_ 110 ?_); refine gd_ 12 Tryd.func110 (strings_TrimLeft.calls a0 (⟨#[91]⟩ : ByteArray) t108 _ A2.out) ?_; rintro w' ⟨nd, rfl⟩; (try (rw [drewN_self w24]; generalize hq_ : World.drewN w24 _ = w24; have n0_ : Aside0 (w24.heap[gb107]? = some (.cells #[.int .i64 0, .string (⟨#[]⟩ : ByteArray)] 34 (0, 0))) := ⟨by rw [← hq_]; exact M_⟩; have n1_ : Aside0 (Below w.heap.size w w24) := ⟨by rw [← hq_]; exact B_⟩; clear BK107 HB hq_; have BK107 := n0_; have HB := n1_; clear n0_ n1_))) | ((with_reducible refine gate_callee (f := 82) rfl ?_); refine goesL_ (some 22) rfl rfl Tryd.func82 (by kernel_rfl) rfl #[.string (a0.extract ((ji6) : Int).toNat a0.size), .string (⟨#[73]⟩ : ByteArray)] rfl (by (try simp only [List.map_toArray, List.map_cons, List.map_nil]); first | done | (simp only [hji6]; rfl) | rfl | (simp only [List.length_drop, List.length_take]; rfl)) ?_; (with_reducible refine (strings_HasPrefix.calls (a0.extract ((ji6) : Int).toNat a0.size) (⟨#[73]⟩ : ByteArray) false _ A9.out).mono ?_); rintro e w' ⟨rfl, ⟨nd, rfl⟩⟩; refine ⟨_, rfl, ?_⟩; (try (rw [drewN_self w24]; generalize hq_ : World.drewN w24 _ = w24; have n0_ : Aside0 (w24.heap[gb107]? = some (.cells #[.int .i64 0, .string (⟨#[]⟩ : ByteArray)] 34 (0, 0))) := ⟨by rw [← hq_]; exact M_⟩; have n1_ : Aside0 (Below w.heap.size w w24) := ⟨by rw [← hq_]; exact B_⟩; clear BK107 HB hq_; have BK107 := n0_; have HB := n1_; clear n0_ n1_))) | ((with_reducible refine gate_callee (f := 111) rfl ?_); refine goesL_ (some 29) rfl rfl Tryd.func111 (by kernel_rfl) rfl #[.string (a0.extract ((ji6) : Int).toNat a0.size), .string (⟨#[59]⟩ : ByteArray)] rfl (by (try simp only [List.map_toArray, List.map_cons, List.map_nil]); first | done | (simp only [hji6]; rfl) | rfl | (simp only [List.length_drop, List.length_take]; rfl)) ?_; (with_reducible refine (strings_Cut.calls (a0.extract ((ji6) : Int).toNat a0.size) (⟨#[59]⟩ : ByteArray) t110 t111 true _ A16.out).mono ?_); rintro e w' ⟨rfl, ⟨nd, rfl⟩⟩; refine ⟨_, rfl, ?_⟩; (try (rw [drewN_self w24]; generalize hq_ : World.drewN w24 _ = w24; have n0_ : Aside0 (w24.heap[gb107]? = some (.cells #[.int .i64 0, .string (⟨#[]⟩ : ByteArray)] 34 (0, 0))) := ⟨by rw [← hq_]; exact M_⟩; have n1_ : Aside0 (Below w.heap.size w w24) := ⟨by rw [← hq_]; exact B_⟩; clear BK107 HB hq_; have BK107 := n0_; have HB := n1_; clear n0_ n1_))) | (go_at_call 82; (with_reducible refine (strings_HasPrefix.calls t110 (⟨#[76]⟩ : ByteArray) true _ A18.out).mono ?_); rintro e w' ⟨rfl, ⟨nd, rfl⟩⟩; (try (rw [drewN_self w24]; generalize hq_ : World.drewN w24 _ = w24; have n0_ : Aside0 (w24.heap[gb107]? = some (.cells #[.int .i64 0, .string (⟨#[]⟩ : ByteArray)] 34 (0, 0))) := ⟨by rw [← hq_]; exact M_⟩; have n1_ : Aside0 (Below w.heap.size w w24) := ⟨by rw [← hq_]; exact B_⟩; clear BK107 HB hq_; have BK107 := n0_; have HB := n1_; clear n0_ n1_))) | (go_at_call 72; (with_reducible refine (desc_Name.calls k (t110.extract 1 t110.size) true _ A21.out).mono ?_); rintro e w' ⟨rfl, ⟨nd, rfl⟩⟩; (try (rw [drewN_self w24]; generalize hq_ : World.drewN w24 _ = w24; have n0_ : Aside0 (w24.heap[gb107]? = some (.cells #[.int .i64 0, .string (⟨#[]⟩ : ByteArray)] 34 (0, 0))) := ⟨by rw [← hq_]; exact M_⟩; have n1_ : Aside0 (Below w.heap.size w w24) := ⟨by rw [← hq_]; exact B_⟩; clear BK107 HB hq_; have BK107 := n0_; have HB := n1_; clear n0_ n1_)); obtain ⟨hcz25_0, hcz25_1, hfz25_0, hfz25_1⟩ := c2_ BK107.out))
                  refine bodyPost_ret (results_ctt rfl _ _ gb107 34 #[.int .i64 ji6, .string (t110.extract 1 t110.size)] (0, 0) _ rfl P_ Tryd.underlying34 rfl (by kernel_rfl)) rfl ?_
                  exact ⟨by first | rfl | (simp [errW_none, errW_some] <;> rfl) | (simp only [← hji6]; first | rfl | (simp [errW_none, errW_some] <;> rfl)) | (simp [*, errW_none, errW_some] <;> rfl), B_⟩
                · replace c22 := Bool.eq_false_iff.mpr c22
                  subst c22
                  have H1 : (some (0, (⟨#[]⟩ : ByteArray), (⟨#[]⟩ : ByteArray), false)) = some (r1, r2, r3, r4) := by rw [if_neg (show ¬ (false = true) by decide)] at H; exact H
                  clear H
                  have H := H1
                  clear H1
                  simp only [Option.some.injEq, Prod.mk.injEq] at H
                  obtain ⟨rfl, rfl, rfl, rfl⟩ := H
                  go_enter Tryd.func81, Tryd.ntmps81
                  go_wp2_with (first | ((with_reducible refine d_ 2 ?_); refine X_ 2 #[.int .i64 0, .string (⟨#[]⟩ : ByteArray)] 34 ?_; intro gb107 hg w26 hbox hb; have BK107 := Aside0.mk hbox; have GW107 := Aside0.mk (s_ hg); have GE107 := GW107; have HB := bs_ hb; clear hb hbox hg) | ((with_reducible refine gt_ 110 ?_); refine gd_ 12 Tryd.func110 (strings_TrimLeft.calls a0 (⟨#[91]⟩ : ByteArray) t108 _ A2.out) ?_; rintro w' ⟨nd, rfl⟩; (try (rw [drewN_self w26]; generalize hq_ : World.drewN w26 _ = w26; have n0_ : Aside0 (w26.heap[gb107]? = some (.cells #[.int .i64 0, .string (⟨#[]⟩ : ByteArray)] 34 (0, 0))) := ⟨by rw [← hq_]; exact M_⟩; have n1_ : Aside0 (Below w.heap.size w w26) := ⟨by rw [← hq_]; exact B_⟩; clear BK107 HB hq_; have BK107 := n0_; have HB := n1_; clear n0_ n1_))) | ((with_reducible refine gate_callee (f := 82) rfl ?_); refine goesL_ (some 22) rfl rfl Tryd.func82 (by kernel_rfl) rfl #[.string (a0.extract ((ji6) : Int).toNat a0.size), .string (⟨#[73]⟩ : ByteArray)] rfl (by (try simp only [List.map_toArray, List.map_cons, List.map_nil]); first | done | (simp only [hji6]; rfl) | rfl | (simp only [List.length_drop, List.length_take]; rfl)) ?_; (with_reducible refine (strings_HasPrefix.calls (a0.extract ((ji6) : Int).toNat a0.size) (⟨#[73]⟩ : ByteArray) false _ A9.out).mono ?_); rintro e w' ⟨rfl, ⟨nd, rfl⟩⟩; refine ⟨_, rfl, ?_⟩; (try (rw [drewN_self w26]; generalize hq_ : World.drewN w26 _ = w26; have n0_ : Aside0 (w26.heap[gb107]? = some (.cells #[.int .i64 0, .string (⟨#[]⟩ : ByteArray)] 34 (0, 0))) := ⟨by rw [← hq_]; exact M_⟩; have n1_ : Aside0 (Below w.heap.size w w26) := ⟨by rw [← hq_]; exact B_⟩; clear BK107 HB hq_; have BK107 := n0_; have HB := n1_; clear n0_ n1_))) | ((with_reducible refine gate_callee (f := 111) rfl ?_); refine goesL_ (some 29) rfl rfl Tryd.func111 (by kernel_rfl) rfl #[.string (a0.extract ((ji6) : Int).toNat a0.size), .string (⟨#[59]⟩ : ByteArray)] rfl (by (try simp only [List.map_toArray, List.map_cons, List.map_nil]); first | done | (simp only [hji6]; rfl) | rfl | (simp only [List.length_drop, List.length_take]; rfl)) ?_; (with_reducible refine (strings_Cut.calls (a0.extract ((ji6) : Int).toNat a0.size) (⟨#[59]⟩ : ByteArray) t110 t111 true _ A16.out).mono ?_); rintro e w' ⟨rfl, ⟨nd, rfl⟩⟩; refine ⟨_, rfl, ?_⟩; (try (rw [drewN_self w26]; generalize hq_ : World.drewN w26 _ = w26; have n0_ : Aside0 (w26.heap[gb107]? = some (.cells #[.int .i64 0, .string (⟨#[]⟩ : ByteArray)] 34 (0, 0))) := ⟨by rw [← hq_]; exact M_⟩; have n1_ : Aside0 (Below w.heap.size w w26) := ⟨by rw [← hq_]; exact B_⟩; clear BK107 HB hq_; have BK107 := n0_; have HB := n1_; clear n0_ n1_))) | (go_at_call 82; (with_reducible refine (strings_HasPrefix.calls t110 (⟨#[76]⟩ : ByteArray) true _ A18.out).mono ?_); rintro e w' ⟨rfl, ⟨nd, rfl⟩⟩; (try (rw [drewN_self w26]; generalize hq_ : World.drewN w26 _ = w26; have n0_ : Aside0 (w26.heap[gb107]? = some (.cells #[.int .i64 0, .string (⟨#[]⟩ : ByteArray)] 34 (0, 0))) := ⟨by rw [← hq_]; exact M_⟩; have n1_ : Aside0 (Below w.heap.size w w26) := ⟨by rw [← hq_]; exact B_⟩; clear BK107 HB hq_; have BK107 := n0_; have HB := n1_; clear n0_ n1_))) | (go_at_call 72; (with_reducible refine (desc_Name.calls k (t110.extract 1 t110.size) false _ A21.out).mono ?_); rintro e w' ⟨rfl, ⟨nd, rfl⟩⟩; (try (rw [drewN_self w26]; generalize hq_ : World.drewN w26 _ = w26; have n0_ : Aside0 (w26.heap[gb107]? = some (.cells #[.int .i64 0, .string (⟨#[]⟩ : ByteArray)] 34 (0, 0))) := ⟨by rw [← hq_]; exact M_⟩; have n1_ : Aside0 (Below w.heap.size w w26) := ⟨by rw [← hq_]; exact B_⟩; clear BK107 HB hq_; have BK107 := n0_; have HB := n1_; clear n0_ n1_)); obtain ⟨hcz27_0, hcz27_1, hfz27_0, hfz27_1⟩ := c2_ BK107.out))
                  refine bodyPost_ret (results_ctt rfl _ _ gb107 34 #[.int .i64 0, .string (⟨#[]⟩ : ByteArray)] (0, 0) _ rfl P_ Tryd.underlying34 rfl (by kernel_rfl)) rfl ?_
                  exact ⟨by first | rfl | (simp [errW_none, errW_some] <;> rfl) | (simp only [← hji6]; first | rfl | (simp [errW_none, errW_some] <;> rfl)) | (simp [*, errW_none, errW_some] <;> rfl), B_⟩
              · rw [if_neg c20] at H
                exact absurd H (by simp)
            · replace c19 := Bool.eq_false_iff.mpr c19
              subst c19
              have H1 : (some (0, (⟨#[]⟩ : ByteArray), (⟨#[]⟩ : ByteArray), false)) = some (r1, r2, r3, r4) := by rw [if_neg (show ¬ (false = true) by decide)] at H; exact H
              clear H
              have H := H1
              clear H1
              simp only [Option.some.injEq, Prod.mk.injEq] at H
              obtain ⟨rfl, rfl, rfl, rfl⟩ := H
              go_enter Tryd.func81, Tryd.ntmps81
              go_wp2_with (first | ((with_reducible refine d_ 2 ?_); refine X_ 2 #[.int .i64 0, .string (⟨#[]⟩ : ByteArray)] 34 ?_; intro gb107 hg w28 hbox hb; have BK107 := Aside0.mk hbox; have GW107 := Aside0.mk (s_ hg); have GE107 := GW107; have HB := bs_ hb; clear hb hbox hg) | ((with_reducible refine gt_ 110 ?_); refine gd_ 12 Tryd.func110 (strings_TrimLeft.calls a0 (⟨#[91]⟩ : ByteArray) t108 _ A2.out) ?_; rintro w' ⟨nd, rfl⟩; (try (rw [drewN_self w28]; generalize hq_ : World.drewN w28 _ = w28; have n0_ : Aside0 (w28.heap[gb107]? = some (.cells #[.int .i64 0, .string (⟨#[]⟩ : ByteArray)] 34 (0, 0))) := ⟨by rw [← hq_]; exact M_⟩; have n1_ : Aside0 (Below w.heap.size w w28) := ⟨by rw [← hq_]; exact B_⟩; clear BK107 HB hq_; have BK107 := n0_; have HB := n1_; clear n0_ n1_))) | ((with_reducible refine gate_callee (f := 82) rfl ?_); refine goesL_ (some 22) rfl rfl Tryd.func82 (by kernel_rfl) rfl #[.string (a0.extract ((ji6) : Int).toNat a0.size), .string (⟨#[73]⟩ : ByteArray)] rfl (by (try simp only [List.map_toArray, List.map_cons, List.map_nil]); first | done | (simp only [hji6]; rfl) | rfl | (simp only [List.length_drop, List.length_take]; rfl)) ?_; (with_reducible refine (strings_HasPrefix.calls (a0.extract ((ji6) : Int).toNat a0.size) (⟨#[73]⟩ : ByteArray) false _ A9.out).mono ?_); rintro e w' ⟨rfl, ⟨nd, rfl⟩⟩; refine ⟨_, rfl, ?_⟩; (try (rw [drewN_self w28]; generalize hq_ : World.drewN w28 _ = w28; have n0_ : Aside0 (w28.heap[gb107]? = some (.cells #[.int .i64 0, .string (⟨#[]⟩ : ByteArray)] 34 (0, 0))) := ⟨by rw [← hq_]; exact M_⟩; have n1_ : Aside0 (Below w.heap.size w w28) := ⟨by rw [← hq_]; exact B_⟩; clear BK107 HB hq_; have BK107 := n0_; have HB := n1_; clear n0_ n1_))) | ((with_reducible refine gate_callee (f := 111) rfl ?_); refine goesL_ (some 29) rfl rfl Tryd.func111 (by kernel_rfl) rfl #[.string (a0.extract ((ji6) : Int).toNat a0.size), .string (⟨#[59]⟩ : ByteArray)] rfl (by (try simp only [List.map_toArray, List.map_cons, List.map_nil]); first | done | (simp only [hji6]; rfl) | rfl | (simp only [List.length_drop, List.length_take]; rfl)) ?_; (with_reducible refine (strings_Cut.calls (a0.extract ((ji6) : Int).toNat a0.size) (⟨#[59]⟩ : ByteArray) t110 t111 true _ A16.out).mono ?_); rintro e w' ⟨rfl, ⟨nd, rfl⟩⟩; refine ⟨_, rfl, ?_⟩; (try (rw [drewN_self w28]; generalize hq_ : World.drewN w28 _ = w28; have n0_ : Aside0 (w28.heap[gb107]? = some (.cells #[.int .i64 0, .string (⟨#[]⟩ : ByteArray)] 34 (0, 0))) := ⟨by rw [← hq_]; exact M_⟩; have n1_ : Aside0 (Below w.heap.size w w28) := ⟨by rw [← hq_]; exact B_⟩; clear BK107 HB hq_; have BK107 := n0_; have HB := n1_; clear n0_ n1_))) | (go_at_call 82; (with_reducible refine (strings_HasPrefix.calls t110 (⟨#[76]⟩ : ByteArray) false _ A18.out).mono ?_); rintro e w' ⟨rfl, ⟨nd, rfl⟩⟩; (try (rw [drewN_self w28]; generalize hq_ : World.drewN w28 _ = w28; have n0_ : Aside0 (w28.heap[gb107]? = some (.cells #[.int .i64 0, .string (⟨#[]⟩ : ByteArray)] 34 (0, 0))) := ⟨by rw [← hq_]; exact M_⟩; have n1_ : Aside0 (Below w.heap.size w w28) := ⟨by rw [← hq_]; exact B_⟩; clear BK107 HB hq_; have BK107 := n0_; have HB := n1_; clear n0_ n1_)); obtain ⟨hcz29_0, hcz29_1, hfz29_0, hfz29_1⟩ := c2_ BK107.out))
              refine bodyPost_ret (results_ctt rfl _ _ gb107 34 #[.int .i64 0, .string (⟨#[]⟩ : ByteArray)] (0, 0) _ rfl P_ Tryd.underlying34 rfl (by kernel_rfl)) rfl ?_
              exact ⟨by first | rfl | (simp [errW_none, errW_some] <;> rfl) | (simp only [← hji6]; first | rfl | (simp [errW_none, errW_some] <;> rfl)) | (simp [*, errW_none, errW_some] <;> rfl), B_⟩
          · replace c17 := Bool.eq_false_iff.mpr c17
            subst c17
            have H1 : (some (0, (⟨#[]⟩ : ByteArray), (⟨#[]⟩ : ByteArray), false)) = some (r1, r2, r3, r4) := by rw [if_neg (show ¬ (false = true) by decide)] at H; exact H
            clear H
            have H := H1
            clear H1
            simp only [Option.some.injEq, Prod.mk.injEq] at H
            obtain ⟨rfl, rfl, rfl, rfl⟩ := H
            go_enter Tryd.func81, Tryd.ntmps81
            go_wp2_with (first | ((with_reducible refine d_ 2 ?_); refine X_ 2 #[.int .i64 0, .string (⟨#[]⟩ : ByteArray)] 34 ?_; intro gb107 hg w30 hbox hb; have BK107 := Aside0.mk hbox; have GW107 := Aside0.mk (s_ hg); have GE107 := GW107; have HB := bs_ hb; clear hb hbox hg) | ((with_reducible refine gt_ 110 ?_); refine gd_ 12 Tryd.func110 (strings_TrimLeft.calls a0 (⟨#[91]⟩ : ByteArray) t108 _ A2.out) ?_; rintro w' ⟨nd, rfl⟩; (try (rw [drewN_self w30]; generalize hq_ : World.drewN w30 _ = w30; have n0_ : Aside0 (w30.heap[gb107]? = some (.cells #[.int .i64 0, .string (⟨#[]⟩ : ByteArray)] 34 (0, 0))) := ⟨by rw [← hq_]; exact M_⟩; have n1_ : Aside0 (Below w.heap.size w w30) := ⟨by rw [← hq_]; exact B_⟩; clear BK107 HB hq_; have BK107 := n0_; have HB := n1_; clear n0_ n1_))) | ((with_reducible refine gate_callee (f := 82) rfl ?_); refine goesL_ (some 22) rfl rfl Tryd.func82 (by kernel_rfl) rfl #[.string (a0.extract ((ji6) : Int).toNat a0.size), .string (⟨#[73]⟩ : ByteArray)] rfl (by (try simp only [List.map_toArray, List.map_cons, List.map_nil]); first | done | (simp only [hji6]; rfl) | rfl | (simp only [List.length_drop, List.length_take]; rfl)) ?_; (with_reducible refine (strings_HasPrefix.calls (a0.extract ((ji6) : Int).toNat a0.size) (⟨#[73]⟩ : ByteArray) false _ A9.out).mono ?_); rintro e w' ⟨rfl, ⟨nd, rfl⟩⟩; refine ⟨_, rfl, ?_⟩; (try (rw [drewN_self w30]; generalize hq_ : World.drewN w30 _ = w30; have n0_ : Aside0 (w30.heap[gb107]? = some (.cells #[.int .i64 0, .string (⟨#[]⟩ : ByteArray)] 34 (0, 0))) := ⟨by rw [← hq_]; exact M_⟩; have n1_ : Aside0 (Below w.heap.size w w30) := ⟨by rw [← hq_]; exact B_⟩; clear BK107 HB hq_; have BK107 := n0_; have HB := n1_; clear n0_ n1_))) | ((with_reducible refine gate_callee (f := 111) rfl ?_); refine goesL_ (some 29) rfl rfl Tryd.func111 (by kernel_rfl) rfl #[.string (a0.extract ((ji6) : Int).toNat a0.size), .string (⟨#[59]⟩ : ByteArray)] rfl (by (try simp only [List.map_toArray, List.map_cons, List.map_nil]); first | done | (simp only [hji6]; rfl) | rfl | (simp only [List.length_drop, List.length_take]; rfl)) ?_; (with_reducible refine (strings_Cut.calls (a0.extract ((ji6) : Int).toNat a0.size) (⟨#[59]⟩ : ByteArray) t110 t111 false _ A16.out).mono ?_); rintro e w' ⟨rfl, ⟨nd, rfl⟩⟩; refine ⟨_, rfl, ?_⟩; (try (rw [drewN_self w30]; generalize hq_ : World.drewN w30 _ = w30; have n0_ : Aside0 (w30.heap[gb107]? = some (.cells #[.int .i64 0, .string (⟨#[]⟩ : ByteArray)] 34 (0, 0))) := ⟨by rw [← hq_]; exact M_⟩; have n1_ : Aside0 (Below w.heap.size w w30) := ⟨by rw [← hq_]; exact B_⟩; clear BK107 HB hq_; have BK107 := n0_; have HB := n1_; clear n0_ n1_)); obtain ⟨hcz31_0, hcz31_1, hfz31_0, hfz31_1⟩ := c2_ BK107.out))
            refine bodyPost_ret (results_ctt rfl _ _ gb107 34 #[.int .i64 0, .string (⟨#[]⟩ : ByteArray)] (0, 0) _ rfl P_ Tryd.underlying34 rfl (by kernel_rfl)) rfl ?_
            exact ⟨by first | rfl | (simp [errW_none, errW_some] <;> rfl) | (simp only [← hji6]; first | rfl | (simp [errW_none, errW_some] <;> rfl)) | (simp [*, errW_none, errW_some] <;> rfl), B_⟩
      · rw [if_neg c8] at H
        exact absurd H (by simp)
    · rw [if_neg c7] at H
      exact absurd H (by simp)
def desc_Type.f (k : Nat) (a0 : ByteArray) : Option (Int × ByteArray × Int) := (desc_first.f k a0).bind fun bt116 => (if bt116.2.2.2 = true then (if bt116.2.2.1.toList = ([] : List UInt8) then (some (bt116.1, bt116.2.1, 0)) else (some (0, (⟨#[]⟩ : ByteArray), 15))) else (some (0, (⟨#[]⟩ : ByteArray), 15)))
set_option maxHeartbeats 8000000 in
set_option maxRecDepth 100000 in
theorem desc_Type.calls (k : Nat) (a0 : ByteArray) (r1 : Int) (r2 : ByteArray) (r3 : Int) (w : World) (h : desc_Type.f k a0 = some (r1, r2, r3)) :
    Calls Tryd.prog 42 #[.string a0] w fun e w' => e = .returned (.tuple #[.agg #[.int .i64 r1, .string r2], .int .i64 r3]) ∧ Below w.heap.size w w' := by
  have hu34 := Tryd.underlying34
  have HB := Aside0.mk (Below.refl w.heap.size w)
  have H : ((desc_first.f k a0).bind fun bt116 => (if bt116.2.2.2 = true then (if bt116.2.2.1.toList = ([] : List UInt8) then (some (bt116.1, bt116.2.1, 0)) else (some (0, (⟨#[]⟩ : ByteArray), 15))) else (some (0, (⟨#[]⟩ : ByteArray), 15)))) = some (r1, r2, r3) := h
  clear h
  replace H := Option.bind_eq_some_iff.mp H
  obtain ⟨⟨t116, t117, t118, t119⟩, A20, H⟩ := H
  replace H : (if t119 = true then (if t118.toList = ([] : List UInt8) then (some (t116, t117, 0)) else (some (0, (⟨#[]⟩ : ByteArray), 15))) else (some (0, (⟨#[]⟩ : ByteArray), 15))) = some (r1, r2, r3) := H
  have A2 := Aside0.mk A20
  clear A20
  by_cases c3 : t119 = true
  · subst c3
    have H1 : (if t118.toList = ([] : List UInt8) then (some (t116, t117, 0)) else (some (0, (⟨#[]⟩ : ByteArray), 15))) = some (r1, r2, r3) := by rw [if_pos rfl] at H; exact H
    clear H
    have H := H1
    clear H1
    by_cases c4 : t118.toList = ([] : List UInt8)
    · rw [if_pos c4] at H
      have c4b0 : (t118.toList == ([] : List UInt8)) = true := beq_iff_eq.mpr c4
      have c4b1 : (t118.toList != ([] : List UInt8)) = false := bne_eq_false_iff_eq.mpr c4
      clear c4
      simp only [Option.some.injEq, Prod.mk.injEq] at H
      obtain ⟨rfl, rfl, rfl⟩ := H
      go_enter Tryd.func42, Tryd.ntmps42
      go_wp2_with (first | ((with_reducible refine d_ 2 ?_); refine X_ 2 #[.int .i64 0, .string (⟨#[]⟩ : ByteArray)] 34 ?_; intro gb115 hg w5 hbox hb; have BK115 := Aside0.mk hbox; have GW115 := Aside0.mk (s_ hg); have GE115 := GW115; have HB := bs_ hb; clear hb hbox hg) | ((with_reducible refine gt_ 81 ?_); refine gd_ 9 Tryd.func81 (desc_first.calls k a0 t116 t117 t118 true _ A2.out) ?_; intro w6 hb; have BK115 := kb_ BK115 hb; have HB := bs_ hb; (try clear hb); (try clear hb2); (try clear hk); (try clear hi)) | ((with_reducible refine d_ 4 ?_); refine X_ 4 #[.int .i64 0, .string (⟨#[]⟩ : ByteArray)] 34 ?_; intro gb120 hg w7 hbox hb; have BK120 := Aside0.mk hbox; have GW120 := Aside0.mk (s_ hg); have GE120 := GW120; have NB115_120 := Aside0.mk (xx_ hg BK115); have BK115 := kb_ BK115 hb; have NB120_115 := Aside0.mk NB115_120.out.symm; have HB := bs_ hb; clear hb hbox hg; have hnb8 := NB120_115.out; have hnc8 := NB115_120.out; obtain ⟨hcz9_0, hcz9_1, hfz9_0, hfz9_1⟩ := c2_ BK120.out; obtain ⟨hcz10_0, hcz10_1, hfz10_0, hfz10_1⟩ := c2_ BK115.out))
      refine bodyPost_ret (results_ct rfl _ _ gb115 34 #[.int .i64 t116, .string t117] (0, 0) _ rfl P_ Tryd.underlying34 rfl (by kernel_rfl)) rfl ?_
      exact ⟨E_, B_⟩
    · rw [if_neg c4] at H
      have c4b0 : (t118.toList == ([] : List UInt8)) = false := beq_eq_false_iff_ne.mpr c4
      have c4b1 : (t118.toList != ([] : List UInt8)) = true := bne_iff_ne.mpr c4
      simp only [Option.some.injEq, Prod.mk.injEq] at H
      obtain ⟨rfl, rfl, rfl⟩ := H
      go_enter Tryd.func42, Tryd.ntmps42
      go_wp2_with (first | ((with_reducible refine d_ 2 ?_); refine X_ 2 #[.int .i64 0, .string (⟨#[]⟩ : ByteArray)] 34 ?_; intro gb115 hg w11 hbox hb; have BK115 := Aside0.mk hbox; have GW115 := Aside0.mk (s_ hg); have GE115 := GW115; have HB := bs_ hb; clear hb hbox hg) | ((with_reducible refine gt_ 81 ?_); refine gd_ 9 Tryd.func81 (desc_first.calls k a0 t116 t117 t118 true _ A2.out) ?_; intro w12 hb; have BK115 := kb_ BK115 hb; have HB := bs_ hb; (try clear hb); (try clear hb2); (try clear hk); (try clear hi)) | ((with_reducible refine d_ 4 ?_); refine X_ 4 #[.int .i64 0, .string (⟨#[]⟩ : ByteArray)] 34 ?_; intro gb120 hg w13 hbox hb; have BK120 := Aside0.mk hbox; have GW120 := Aside0.mk (s_ hg); have GE120 := GW120; have NB115_120 := Aside0.mk (xx_ hg BK115); have BK115 := kb_ BK115 hb; have NB120_115 := Aside0.mk NB115_120.out.symm; have HB := bs_ hb; clear hb hbox hg; have hnb14 := NB120_115.out; have hnc14 := NB115_120.out; obtain ⟨hcz15_0, hcz15_1, hfz15_0, hfz15_1⟩ := c2_ BK120.out; obtain ⟨hcz16_0, hcz16_1, hfz16_0, hfz16_1⟩ := c2_ BK115.out))
      refine bodyPost_ret (results_ct rfl _ _ gb115 34 #[.int .i64 0, .string (⟨#[]⟩ : ByteArray)] (0, 0) _ rfl P_ Tryd.underlying34 rfl (by kernel_rfl)) rfl ?_
      exact ⟨E_, B_⟩
  · replace c3 := Bool.eq_false_iff.mpr c3
    subst c3
    have H1 : (some (0, (⟨#[]⟩ : ByteArray), 15)) = some (r1, r2, r3) := by rw [if_neg (show ¬ (false = true) by decide)] at H; exact H
    clear H
    have H := H1
    clear H1
    simp only [Option.some.injEq, Prod.mk.injEq] at H
    obtain ⟨rfl, rfl, rfl⟩ := H
    go_enter Tryd.func42, Tryd.ntmps42
    go_wp2_with (first | ((with_reducible refine d_ 2 ?_); refine X_ 2 #[.int .i64 0, .string (⟨#[]⟩ : ByteArray)] 34 ?_; intro gb115 hg w17 hbox hb; have BK115 := Aside0.mk hbox; have GW115 := Aside0.mk (s_ hg); have GE115 := GW115; have HB := bs_ hb; clear hb hbox hg) | ((with_reducible refine gt_ 81 ?_); refine gd_ 9 Tryd.func81 (desc_first.calls k a0 t116 t117 t118 false _ A2.out) ?_; intro w18 hb; have BK115 := kb_ BK115 hb; have HB := bs_ hb; (try clear hb); (try clear hb2); (try clear hk); (try clear hi)) | ((with_reducible refine d_ 4 ?_); refine X_ 4 #[.int .i64 0, .string (⟨#[]⟩ : ByteArray)] 34 ?_; intro gb120 hg w19 hbox hb; have BK120 := Aside0.mk hbox; have GW120 := Aside0.mk (s_ hg); have GE120 := GW120; have NB115_120 := Aside0.mk (xx_ hg BK115); have BK115 := kb_ BK115 hb; have NB120_115 := Aside0.mk NB115_120.out.symm; have HB := bs_ hb; clear hb hbox hg; have hnb20 := NB120_115.out; have hnc20 := NB115_120.out; obtain ⟨hcz21_0, hcz21_1, hfz21_0, hfz21_1⟩ := c2_ BK120.out; obtain ⟨hcz22_0, hcz22_1, hfz22_0, hfz22_1⟩ := c2_ BK115.out))
    refine bodyPost_ret (results_ct rfl _ _ gb115 34 #[.int .i64 0, .string (⟨#[]⟩ : ByteArray)] (0, 0) _ rfl P_ Tryd.underlying34 rfl (by kernel_rfl)) rfl ?_
    exact ⟨E_, B_⟩
def pool_kind.f (l0 : List (S50)) (a1 : Int) (a2 : Int) : Option (Int × ByteArray × Int × Int × Int × Int × Int) := if a1 < 0 then (some (0, (⟨#[]⟩ : ByteArray), 0, 0, 0, 0, 16)) else (if a1 ≥ (l0.length : Int) then (some (0, (⟨#[]⟩ : ByteArray), 0, 0, 0, 0, 16)) else (if 0 ≤ a1 then (if a1 < (l0.length : Int) then (if ((rd_T50 l0 a1).f0) = a2 then (some ((rd_T50 l0 a1).f0, (rd_T50 l0 a1).f1, (rd_T50 l0 a1).f2, (rd_T50 l0 a1).f3, (rd_T50 l0 a1).f4, (rd_T50 l0 a1).f5, 0)) else (some (0, (⟨#[]⟩ : ByteArray), 0, 0, 0, 0, 16))) else (none)) else (none)))
set_option maxHeartbeats 8000000 in
set_option maxRecDepth 100000 in
theorem pool_kind.calls (A0 : Option Addr) (c0 : Nat) (l0 : List (S50)) (a1 : Int) (a2 : Int) (r1 : Int) (r2 : ByteArray) (r3 : Int) (r4 : Int) (r5 : Int) (r6 : Int) (r7 : Int) (w : World) (hr0 : Kd.C k50 w A0 l0.length l0) (hc0 : l0.length ≤ c0) (h : pool_kind.f l0 a1 a2 = some (r1, r2, r3, r4, r5, r6, r7)) :
    Calls Tryd.prog 80 #[.slice A0 l0.length c0, .int .i64 a1, .int .i64 a2] w fun e w' => e = .returned (.tuple #[.agg #[.int .i64 r1, .string r2, .int .i64 r3, .int .i64 r4, .int .i64 r5, .int .i64 r6], .int .i64 r7]) ∧ Below w.heap.size w w' := by
  have hu50 := Tryd.underlying50
  have HR0 := Aside0.mk hr0
  have HC0 := Aside0.mk hc0
  clear hr0 hc0
  have HB := Aside0.mk (Below.refl w.heap.size w)
  have H : (if a1 < 0 then (some (0, (⟨#[]⟩ : ByteArray), 0, 0, 0, 0, 16)) else (if a1 ≥ (l0.length : Int) then (some (0, (⟨#[]⟩ : ByteArray), 0, 0, 0, 0, 16)) else (if 0 ≤ a1 then (if a1 < (l0.length : Int) then (if ((rd_T50 l0 a1).f0) = a2 then (some ((rd_T50 l0 a1).f0, (rd_T50 l0 a1).f1, (rd_T50 l0 a1).f2, (rd_T50 l0 a1).f3, (rd_T50 l0 a1).f4, (rd_T50 l0 a1).f5, 0)) else (some (0, (⟨#[]⟩ : ByteArray), 0, 0, 0, 0, 16))) else (none)) else (none)))) = some (r1, r2, r3, r4, r5, r6, r7) := h
  clear h
  by_cases c4 : a1 < 0
  · rw [if_pos c4] at H
    have c4b0 : decide (a1 < 0) = true := decide_eq_true c4
    clear c4
    simp only [Option.some.injEq, Prod.mk.injEq] at H
    obtain ⟨rfl, rfl, rfl, rfl, rfl, rfl, rfl⟩ := H
    go_enter Tryd.func80, Tryd.ntmps80
    go_wp2_with (first | ((with_reducible refine d_ 6 ?_); (try (refine gate_guard (by rfl) ?_; dsimp only)); refine X_ 6 #[.int .i64 0, .string (⟨#[]⟩ : ByteArray), .int .i64 0, .int .i64 0, .int .i64 0, .int .i64 0] 50 ?_; intro gb121 hg w5 hbox hb; have BK121 := Aside0.mk hbox; have GW121 := Aside0.mk (s_ hg); have GE121 := GW121; have HB := bs_ hb; clear hb hbox hg; obtain ⟨hcz6_0, hcz6_1, hcz6_2, hcz6_3, hcz6_4, hcz6_5, hfz6_0, hfz6_1, hfz6_2, hfz6_3, hfz6_4, hfz6_5⟩ := c6_ BK121.out))
    refine bodyPost_ret (results_ct rfl _ _ gb121 50 #[.int .i64 0, .string (⟨#[]⟩ : ByteArray), .int .i64 0, .int .i64 0, .int .i64 0, .int .i64 0] (0, 0) _ rfl P_ Tryd.underlying50 rfl (by kernel_rfl)) rfl ?_
    exact ⟨E_, B_⟩
  · rw [if_neg c4] at H
    have c4b0 : decide (a1 < 0) = false := decide_eq_false c4
    clear c4
    by_cases c7 : a1 ≥ (l0.length : Int)
    · rw [if_pos c7] at H
      have c7b0 : decide ((l0.length : Int) ≤ a1) = true := decide_eq_true c7
      clear c7
      simp only [Option.some.injEq, Prod.mk.injEq] at H
      obtain ⟨rfl, rfl, rfl, rfl, rfl, rfl, rfl⟩ := H
      go_enter Tryd.func80, Tryd.ntmps80
      go_wp2_with (first | ((with_reducible refine d_ 6 ?_); (try (refine gate_guard (by rfl) ?_; dsimp only)); refine X_ 6 #[.int .i64 0, .string (⟨#[]⟩ : ByteArray), .int .i64 0, .int .i64 0, .int .i64 0, .int .i64 0] 50 ?_; intro gb121 hg w8 hbox hb; have BK121 := Aside0.mk hbox; have GW121 := Aside0.mk (s_ hg); have GE121 := GW121; have HB := bs_ hb; clear hb hbox hg; obtain ⟨hcz9_0, hcz9_1, hcz9_2, hcz9_3, hcz9_4, hcz9_5, hfz9_0, hfz9_1, hfz9_2, hfz9_3, hfz9_4, hfz9_5⟩ := c6_ BK121.out))
      refine bodyPost_ret (results_ct rfl _ _ gb121 50 #[.int .i64 0, .string (⟨#[]⟩ : ByteArray), .int .i64 0, .int .i64 0, .int .i64 0, .int .i64 0] (0, 0) _ rfl P_ Tryd.underlying50 rfl (by kernel_rfl)) rfl ?_
      exact ⟨E_, B_⟩
    · rw [if_neg c7] at H
      have c7b0 : decide ((l0.length : Int) ≤ a1) = false := decide_eq_false c7
      clear c7
      by_cases c10 : 0 ≤ a1
      · rw [if_pos c10] at H
        have c10b0 : decide (0 ≤ a1) = true := decide_eq_true c10
        clear c10
        by_cases c11 : a1 < (l0.length : Int)
        · rw [if_pos c11] at H
          have c11b0 : decide (a1 < (l0.length : Int)) = true := decide_eq_true c11
          clear c11
          by_cases c12 : ((rd_T50 l0 a1).f0) = a2
          · rw [if_pos c12] at H
            have c12b0 : (((rd_T50 l0 a1).f0) == a2) = true := beq_iff_eq.mpr c12
            have c12b1 : (((rd_T50 l0 a1).f0) != a2) = false := bne_eq_false_iff_eq.mpr c12
            clear c12
            simp only [Option.some.injEq, Prod.mk.injEq] at H
            obtain ⟨rfl, rfl, rfl, rfl, rfl, rfl, rfl⟩ := H
            go_enter Tryd.func80, Tryd.ntmps80
            go_wp2_with (first | ((with_reducible refine d_ 6 ?_); (try (refine gate_guard (by rfl) ?_; dsimp only)); refine X_ 6 #[.int .i64 0, .string (⟨#[]⟩ : ByteArray), .int .i64 0, .int .i64 0, .int .i64 0, .int .i64 0] 50 ?_; intro gb121 hg w13 hbox hb; have BK121 := Aside0.mk hbox; have GW121 := Aside0.mk (s_ hg); have GE121 := GW121; have HB := bs_ hb; clear hb hbox hg; have p122 : 0 ≤ (a1 : Int) := of_decide_eq_true A_; have q122 : a1 < (l0.length : Int) := of_decide_eq_true A_; obtain ⟨ad122, e122, hx122_0, hx122_1, hx122_2, hx122_3, hx122_4, hx122_5⟩ := at_T50 HR0.out a1 p122 q122; cases e122; replace hx122_0 := h_ HB hx122_0; replace hx122_1 := h_ HB hx122_1; replace hx122_2 := h_ HB hx122_2; replace hx122_3 := h_ HB hx122_3; replace hx122_4 := h_ HB hx122_4; replace hx122_5 := h_ HB hx122_5; replace p122 := eq_true p122; replace q122 := eq_true q122; have p123 : 0 ≤ (a1 : Int) := of_decide_eq_true A_; have q123 : a1 < (l0.length : Int) := of_decide_eq_true A_; obtain ⟨ad123, e123, hx123_0, hx123_1, hx123_2, hx123_3, hx123_4, hx123_5⟩ := at_T50 HR0.out a1 p123 q123; obtain rfl : ad122 = ad123 := (by injection e123); replace hx123_0 := h_ HB hx123_0; replace hx123_1 := h_ HB hx123_1; replace hx123_2 := h_ HB hx123_2; replace hx123_3 := h_ HB hx123_3; replace hx123_4 := h_ HB hx123_4; replace hx123_5 := h_ HB hx123_5; replace p123 := eq_true p123; replace q123 := eq_true q123; obtain ⟨hcz14_0, hcz14_1, hcz14_2, hcz14_3, hcz14_4, hcz14_5, hfz14_0, hfz14_1, hfz14_2, hfz14_3, hfz14_4, hfz14_5⟩ := c6_ BK121.out))
            refine bodyPost_ret (results_ct rfl _ _ gb121 50 #[.int .i64 ((rd_T50 l0 a1).f0), .string ((rd_T50 l0 a1).f1), .int .i64 ((rd_T50 l0 a1).f2), .int .i64 ((rd_T50 l0 a1).f3), .int .i64 ((rd_T50 l0 a1).f4), .int .i64 ((rd_T50 l0 a1).f5)] (0, 0) _ rfl P_ Tryd.underlying50 rfl (by kernel_rfl)) rfl ?_
            exact ⟨E_, B_⟩
          · rw [if_neg c12] at H
            have c12b0 : (((rd_T50 l0 a1).f0) == a2) = false := beq_eq_false_iff_ne.mpr c12
            have c12b1 : (((rd_T50 l0 a1).f0) != a2) = true := bne_iff_ne.mpr c12
            simp only [Option.some.injEq, Prod.mk.injEq] at H
            obtain ⟨rfl, rfl, rfl, rfl, rfl, rfl, rfl⟩ := H
            go_enter Tryd.func80, Tryd.ntmps80
            go_wp2_with (first | ((with_reducible refine d_ 6 ?_); (try (refine gate_guard (by rfl) ?_; dsimp only)); refine X_ 6 #[.int .i64 0, .string (⟨#[]⟩ : ByteArray), .int .i64 0, .int .i64 0, .int .i64 0, .int .i64 0] 50 ?_; intro gb121 hg w15 hbox hb; have BK121 := Aside0.mk hbox; have GW121 := Aside0.mk (s_ hg); have GE121 := GW121; have HB := bs_ hb; clear hb hbox hg; have p122 : 0 ≤ (a1 : Int) := of_decide_eq_true A_; have q122 : a1 < (l0.length : Int) := of_decide_eq_true A_; obtain ⟨ad122, e122, hx122_0, hx122_1, hx122_2, hx122_3, hx122_4, hx122_5⟩ := at_T50 HR0.out a1 p122 q122; cases e122; replace hx122_0 := h_ HB hx122_0; replace hx122_1 := h_ HB hx122_1; replace hx122_2 := h_ HB hx122_2; replace hx122_3 := h_ HB hx122_3; replace hx122_4 := h_ HB hx122_4; replace hx122_5 := h_ HB hx122_5; replace p122 := eq_true p122; replace q122 := eq_true q122; obtain ⟨hcz16_0, hcz16_1, hcz16_2, hcz16_3, hcz16_4, hcz16_5, hfz16_0, hfz16_1, hfz16_2, hfz16_3, hfz16_4, hfz16_5⟩ := c6_ BK121.out))
            refine bodyPost_ret (results_ct rfl _ _ gb121 50 #[.int .i64 0, .string (⟨#[]⟩ : ByteArray), .int .i64 0, .int .i64 0, .int .i64 0, .int .i64 0] (0, 0) _ rfl P_ Tryd.underlying50 rfl (by kernel_rfl)) rfl ?_
            exact ⟨E_, B_⟩
        · rw [if_neg c11] at H
          exact absurd H (by simp)
      · rw [if_neg c10] at H
        exact absurd H (by simp)
def pool_typed.f (k : Nat) (l0 : List (S50)) (a1 : Int) : Option (Int) := (pool_kind.f l0 a1 1).bind fun bt124 => (if bt124.2.2.2.2.2.2 = 0 then ((desc_Type.f k bt124.2.1).bind fun bt132 => (some bt132.2.2)) else (some bt124.2.2.2.2.2.2))
set_option maxHeartbeats 8000000 in
set_option maxRecDepth 100000 in
theorem pool_typed.calls (k : Nat) (A0 : Option Addr) (c0 : Nat) (l0 : List (S50)) (a1 : Int) (r : Int) (w : World) (hr0 : Kd.C k50 w A0 l0.length l0) (hc0 : l0.length ≤ c0) (h : pool_typed.f k l0 a1 = some r) :
    Calls Tryd.prog 108 #[.slice A0 l0.length c0, .int .i64 a1] w fun e w' => e = .returned (.int .i64 r) ∧ Below w.heap.size w w' := by
  have hu50 := Tryd.underlying50
  have HR0 := Aside0.mk hr0
  have HC0 := Aside0.mk hc0
  clear hr0 hc0
  have HB := Aside0.mk (Below.refl w.heap.size w)
  have H : ((pool_kind.f l0 a1 1).bind fun bt124 => (if bt124.2.2.2.2.2.2 = 0 then ((desc_Type.f k bt124.2.1).bind fun bt132 => (some bt132.2.2)) else (some bt124.2.2.2.2.2.2))) = some r := h
  clear h
  replace H := Option.bind_eq_some_iff.mp H
  obtain ⟨⟨t124, t125, t126, t127, t128, t129, t130⟩, A30, H⟩ := H
  replace H : (if t130 = 0 then ((desc_Type.f k t125).bind fun bt132 => (some bt132.2.2)) else (some t130)) = some r := H
  have A3 := Aside0.mk A30
  clear A30
  by_cases c4 : t130 = 0
  · rw [if_pos c4] at H
    have c4b0 : (t130 == 0) = true := beq_iff_eq.mpr c4
    have c4b1 : (t130 != 0) = false := bne_eq_false_iff_eq.mpr c4
    clear c4
    replace H := Option.bind_eq_some_iff.mp H
    obtain ⟨⟨t132, t133, t134⟩, A50, H⟩ := H
    replace H : (some t134) = some r := H
    have A5 := Aside0.mk A50
    clear A50
    obtain rfl := Option.some.inj H
    go_enter Tryd.func108, Tryd.ntmps108
    go_wp2_with (first | ((with_reducible refine gt_ 80 ?_); refine gd_ 10 Tryd.func80 (pool_kind.calls _ _ l0 a1 1 t124 t125 t126 t127 t128 t129 t130 _ (Y_ HR0.out) HC0.out A3.out) ?_; intro w6 hb; have HB := bs_ hb; (try clear hb); (try clear hb2); (try clear hk); (try clear hi)) | ((with_reducible refine d_ 5 ?_); refine X_ 5 #[.int .i64 0, .string (⟨#[]⟩ : ByteArray), .int .i64 0, .int .i64 0, .int .i64 0, .int .i64 0] 50 ?_; intro gb131 hg w7 hbox hb; have BK131 := Aside0.mk hbox; have GW131 := Aside0.mk (s_ hg); have GE131 := GW131; have HB := bs_ hb; clear hb hbox hg; obtain ⟨hcz8_0, hcz8_1, hcz8_2, hcz8_3, hcz8_4, hcz8_5, hfz8_0, hfz8_1, hfz8_2, hfz8_3, hfz8_4, hfz8_5⟩ := c6_ BK131.out) | ((with_reducible refine gt_ 42 ?_); refine gd_ 18 Tryd.func42 (desc_Type.calls k t125 t132 t133 t134 _ A5.out) ?_; intro w9 hb; have BK131 := Aside0.mk (blk_below (g := gb131) (o := .cells #[.int .i64 t124, .string t125, .int .i64 t126, .int .i64 t127, .int .i64 t128, .int .i64 t129] 50 (0, 0)) P_ hb); have HB := bs_ hb; (try clear hb); (try clear hb2); (try clear hk); (try clear hi)))
    go_ret
    exact ⟨E_, B_⟩
  · rw [if_neg c4] at H
    have c4b0 : (t130 == 0) = false := beq_eq_false_iff_ne.mpr c4
    have c4b1 : (t130 != 0) = true := bne_iff_ne.mpr c4
    obtain rfl := Option.some.inj H
    go_enter Tryd.func108, Tryd.ntmps108
    go_wp2_with (first | ((with_reducible refine gt_ 80 ?_); refine gd_ 10 Tryd.func80 (pool_kind.calls _ _ l0 a1 1 t124 t125 t126 t127 t128 t129 t130 _ (Y_ HR0.out) HC0.out A3.out) ?_; intro w10 hb; have HB := bs_ hb; (try clear hb); (try clear hb2); (try clear hk); (try clear hi)) | ((with_reducible refine d_ 5 ?_); refine X_ 5 #[.int .i64 0, .string (⟨#[]⟩ : ByteArray), .int .i64 0, .int .i64 0, .int .i64 0, .int .i64 0] 50 ?_; intro gb131 hg w11 hbox hb; have BK131 := Aside0.mk hbox; have GW131 := Aside0.mk (s_ hg); have GE131 := GW131; have HB := bs_ hb; clear hb hbox hg; obtain ⟨hcz12_0, hcz12_1, hcz12_2, hcz12_3, hcz12_4, hcz12_5, hfz12_0, hfz12_1, hfz12_2, hfz12_3, hfz12_4, hfz12_5⟩ := c6_ BK131.out))
    go_ret
    exact ⟨E_, B_⟩
end Go.Proofs.YtldejfkplnejjaaDoor.P
