/- desc.Check, desc.TypeText. -/
import Derived.Test.YtldejfkplnejjaaDoorExt
import Derived.Test.YtldejfkplnejjaaDoorShort
import Derived.Test.YtldejfkplnejjaaDoorShort2
import Derived.Test.YtldejfkplnejjaaDoorP3
namespace Go.Proofs.YtldejfkplnejjaaDoor.P
open Go.RowKit Go.Proofs.YtldejfkplnejjaaDoorW.PrintWords Go.Proofs.YtldejfkplnejjaaDoorW.PrintLast Go.Proofs.YtldejfkplnejjaaDoorW.PrintMore
attribute [local go_sem] max2_int min2_int max_two min_two max_three min_three max_four min_four   -- for this text's walks alone
set_option linter.unusedVariables false
set_option linter.unusedSimpArgs false
def desc_Check.j0 : Nat → Bool → Int → ByteArray → Option (Int)
  | 0, _, _, _ => none
  | k + 1, x3, x173000, x173001 => if x3 = true then (some 1) else (if x173001.toList = ([] : List UInt8) then (some 0) else ((desc_Name.f k x173001).bind fun t173 => (if t173 = true then (some 0) else (some 14))))
def desc_Check.f (k : Nat) (a0_0 : Int) (a0_1 : ByteArray) : Option (Int) := if a0_0 < 0 then (desc_Check.j0 k true a0_0 a0_1) else (desc_Check.j0 k (decide (a0_0 > 8)) a0_0 a0_1)
set_option maxHeartbeats 8000000 in
set_option maxRecDepth 100000 in
theorem desc_Check.calls (k : Nat) (a0_0 : Int) (a0_1 : ByteArray) (r : Int) (w : World) (h : desc_Check.f k a0_0 a0_1 = some r) :
    Calls Tryd.prog 105 #[.agg #[.int .i64 a0_0, .string a0_1]] w fun e w' => e = .returned (.int .i64 r) ∧ Below w.heap.size w w' := by
  have hu34 := Tryd.underlying34
  have HB := Aside0.mk (Below.refl w.heap.size w)
  have H : (if a0_0 < 0 then (desc_Check.j0 k true a0_0 a0_1) else (desc_Check.j0 k (decide (a0_0 > 8)) a0_0 a0_1)) = some r := h
  clear h
  have HC2 := Aside0.mk H
  clear H
  go_enter Tryd.func105, Tryd.ntmps105
  go_upto_region 1 with (first | ((with_reducible refine d_ 1 ?_); refine X_ 1 #[.int .i64 a0_0, .string a0_1] 34 ?_; intro gb172 hg w3 hbox hb; have BK172 := Aside0.mk hbox; have GW172 := Aside0.mk (s_ hg); have GE172 := GW172; have HB := bs_ hb; clear hb hbox hg))
  (try simp only [Act.put, List.setIfInBounds_toArray, List.set_cons_zero, List.set_cons_succ])
  go_cut [3] (fun v3 wc => ∃ (kq : Nat) (x3_1 : Bool), v3 = .bool x3_1 ∧ Aside0 (desc_Check.j0 kq x3_1 a0_0 a0_1 = some r) ∧ Aside0 (kq ≤ k) ∧ Aside0 (wc.heap[gb172]? = some (.cells #[.int .i64 a0_0, .string a0_1] 34 (0, 0))) ∧ Aside0 (Below w.heap.size w wc))
  case first =>
    have H := HC2.out
    clear HC2
    by_cases c4 : a0_0 < 0
    · rw [if_pos c4] at H
      have c4b0 : decide (a0_0 < 0) = true := decide_eq_true c4
      clear c4
      (first | rw [c4b0] | (simp only [i64_w, i32_w]; rw [c4b0]) | skip)
      have H' := Aside0.mk H
      clear H
      obtain ⟨hcz5_0, hcz5_1, hfz5_0, hfz5_1⟩ := c2_ BK172.out
      go_wp2
      go_meet
      case rel => exact ⟨_, (true), R_, H', ⟨by first | omega | exact Nat.le_refl _⟩, ⟨M_⟩, ⟨B_⟩⟩
    · rw [if_neg c4] at H
      have c4b0 : decide (a0_0 < 0) = false := decide_eq_false c4
      clear c4
      (first | rw [c4b0] | (simp only [i64_w, i32_w]; rw [c4b0]) | skip)
      have H' := Aside0.mk H
      clear H
      obtain ⟨hcz6_0, hcz6_1, hfz6_0, hfz6_1⟩ := c2_ BK172.out
      go_wp2
      go_meet
      case rel => exact ⟨_, (decide (a0_0 > 8)), R_, H', ⟨by first | omega | exact Nat.le_refl _⟩, ⟨M_⟩, ⟨B_⟩⟩
  case rest =>
    clear HC2
    try clear c1
    try clear p2
    try clear c4
    try clear c4b0
    try clear hcz5_0 hcz5_1 hfz5_0 hfz5_1
    try clear hcz6_0 hcz6_1 hfz6_0 hfz6_1
    obtain ⟨kq, x3_1, rfl, HA, HJ1, BK172, HB⟩ := hcut
    cases kq with
    | zero => exact absurd HA.out (by simp [desc_Check.j0])
    | succ kj1 =>
      have H := HA.out
      clear HA
      simp only [desc_Check.j0] at H
      by_cases c7 : x3_1 = true
      · subst c7
        have H1 : (some 1) = some r := by rw [if_pos rfl] at H; exact H
        clear H
        have H := H1
        clear H1
        obtain rfl := Option.some.inj H
        go_wp2
        go_ret
        exact ⟨E_, B_⟩
      · replace c7 := Bool.eq_false_iff.mpr c7
        subst c7
        have H1 : (if a0_1.toList = ([] : List UInt8) then (some 0) else ((desc_Name.f kj1 a0_1).bind fun t173 => (if t173 = true then (some 0) else (some 14)))) = some r := by rw [if_neg (show ¬ (false = true) by decide)] at H; exact H
        clear H
        have H := H1
        clear H1
        by_cases c8 : a0_1.toList = ([] : List UInt8)
        · rw [if_pos c8] at H
          have c8b0 : (a0_1.toList == ([] : List UInt8)) = true := beq_iff_eq.mpr c8
          have c8b1 : (a0_1.toList != ([] : List UInt8)) = false := bne_eq_false_iff_eq.mpr c8
          clear c8
          obtain rfl := Option.some.inj H
          obtain ⟨hcz9_0, hcz9_1, hfz9_0, hfz9_1⟩ := c2_ BK172.out
          go_wp2
          go_ret
          exact ⟨E_, B_⟩
        · rw [if_neg c8] at H
          have c8b0 : (a0_1.toList == ([] : List UInt8)) = false := beq_eq_false_iff_ne.mpr c8
          have c8b1 : (a0_1.toList != ([] : List UInt8)) = true := bne_iff_ne.mpr c8
          replace H := Option.bind_eq_some_iff.mp H
          obtain ⟨t173, A100, H⟩ := H
          replace H : (if t173 = true then (some 0) else (some 14)) = some r := H
          have A10 := Aside0.mk A100
          clear A100
          by_cases c11 : t173 = true
          · subst c11
            have H1 : (some 0) = some r := by rw [if_pos rfl] at H; exact H
            clear H
            have H := H1
            clear H1
            obtain rfl := Option.some.inj H
            obtain ⟨hcz12_0, hcz12_1, hfz12_0, hfz12_1⟩ := c2_ BK172.out
            go_wp2_with (first | (go_at_call 72; (with_reducible refine (desc_Name.calls kj1 a0_1 true _ A10.out).mono ?_); rintro e w' ⟨rfl, ⟨nd, rfl⟩⟩))
            go_ret
            exact ⟨E_, B_⟩
          · replace c11 := Bool.eq_false_iff.mpr c11
            subst c11
            have H1 : (some 14) = some r := by rw [if_neg (show ¬ (false = true) by decide)] at H; exact H
            clear H
            have H := H1
            clear H1
            obtain rfl := Option.some.inj H
            obtain ⟨hcz13_0, hcz13_1, hfz13_0, hfz13_1⟩ := c2_ BK172.out
            go_wp2_with (first | (go_at_call 72; (with_reducible refine (desc_Name.calls kj1 a0_1 false _ A10.out).mono ?_); rintro e w' ⟨rfl, ⟨nd, rfl⟩⟩))
            go_ret
            exact ⟨E_, B_⟩
def desc_TypeText.f (k : Nat) (a0_0 : Int) (a0_1 : ByteArray) : Option (ByteArray × Int) := (desc_Check.f k a0_0 a0_1).bind fun t175 => (if t175 = 0 then ((strings_Repeat.f (⟨#[91]⟩ : ByteArray) a0_0).bind fun t176 => (if a0_1.toList = ([] : List UInt8) then (if t176.size + 1 ≤ 9223372036854775807 then (some (t176 ++ (⟨#[73]⟩ : ByteArray), 0)) else (none)) else (if t176.size + 1 ≤ 9223372036854775807 then (if (t176 ++ (⟨#[76]⟩ : ByteArray)).size + a0_1.size ≤ 9223372036854775807 then (if ((t176 ++ (⟨#[76]⟩ : ByteArray)) ++ a0_1).size + 1 ≤ 9223372036854775807 then (some (((t176 ++ (⟨#[76]⟩ : ByteArray)) ++ a0_1) ++ (⟨#[59]⟩ : ByteArray), 0)) else (none)) else (none)) else (none)))) else (some ((⟨#[]⟩ : ByteArray), t175)))
set_option maxHeartbeats 8000000 in
set_option maxRecDepth 100000 in
theorem desc_TypeText.calls (k : Nat) (a0_0 : Int) (a0_1 : ByteArray) (r1 : ByteArray) (r2 : Int) (w : World) (h : desc_TypeText.f k a0_0 a0_1 = some (r1, r2)) :
    Calls Tryd.prog 75 #[.agg #[.int .i64 a0_0, .string a0_1]] w fun e w' => e = .returned (.tuple #[.string r1, .int .i64 r2]) ∧ Below w.heap.size w w' := by
  have hu34 := Tryd.underlying34
  have HB := Aside0.mk (Below.refl w.heap.size w)
  have H : ((desc_Check.f k a0_0 a0_1).bind fun t175 => (if t175 = 0 then ((strings_Repeat.f (⟨#[91]⟩ : ByteArray) a0_0).bind fun t176 => (if a0_1.toList = ([] : List UInt8) then (if t176.size + 1 ≤ 9223372036854775807 then (some (t176 ++ (⟨#[73]⟩ : ByteArray), 0)) else (none)) else (if t176.size + 1 ≤ 9223372036854775807 then (if (t176 ++ (⟨#[76]⟩ : ByteArray)).size + a0_1.size ≤ 9223372036854775807 then (if ((t176 ++ (⟨#[76]⟩ : ByteArray)) ++ a0_1).size + 1 ≤ 9223372036854775807 then (some (((t176 ++ (⟨#[76]⟩ : ByteArray)) ++ a0_1) ++ (⟨#[59]⟩ : ByteArray), 0)) else (none)) else (none)) else (none)))) else (some ((⟨#[]⟩ : ByteArray), t175)))) = some (r1, r2) := h
  clear h
  replace H := Option.bind_eq_some_iff.mp H
  obtain ⟨t175, A20, H⟩ := H
  replace H : (if t175 = 0 then ((strings_Repeat.f (⟨#[91]⟩ : ByteArray) a0_0).bind fun t176 => (if a0_1.toList = ([] : List UInt8) then (if t176.size + 1 ≤ 9223372036854775807 then (some (t176 ++ (⟨#[73]⟩ : ByteArray), 0)) else (none)) else (if t176.size + 1 ≤ 9223372036854775807 then (if (t176 ++ (⟨#[76]⟩ : ByteArray)).size + a0_1.size ≤ 9223372036854775807 then (if ((t176 ++ (⟨#[76]⟩ : ByteArray)) ++ a0_1).size + 1 ≤ 9223372036854775807 then (some (((t176 ++ (⟨#[76]⟩ : ByteArray)) ++ a0_1) ++ (⟨#[59]⟩ : ByteArray), 0)) else (none)) else (none)) else (none)))) else (some ((⟨#[]⟩ : ByteArray), t175))) = some (r1, r2) := H
  have A2 := Aside0.mk A20
  clear A20
  by_cases c3 : t175 = 0
  · rw [if_pos c3] at H
    have c3b0 : (t175 == 0) = true := beq_iff_eq.mpr c3
    have c3b1 : (t175 != 0) = false := bne_eq_false_iff_eq.mpr c3
    clear c3
    replace H := Option.bind_eq_some_iff.mp H
    obtain ⟨t176, A40, H⟩ := H
    replace H : (if a0_1.toList = ([] : List UInt8) then (if t176.size + 1 ≤ 9223372036854775807 then (some (t176 ++ (⟨#[73]⟩ : ByteArray), 0)) else (none)) else (if t176.size + 1 ≤ 9223372036854775807 then (if (t176 ++ (⟨#[76]⟩ : ByteArray)).size + a0_1.size ≤ 9223372036854775807 then (if ((t176 ++ (⟨#[76]⟩ : ByteArray)) ++ a0_1).size + 1 ≤ 9223372036854775807 then (some (((t176 ++ (⟨#[76]⟩ : ByteArray)) ++ a0_1) ++ (⟨#[59]⟩ : ByteArray), 0)) else (none)) else (none)) else (none))) = some (r1, r2) := H
    have A4 := Aside0.mk A40
    clear A40
    by_cases c5 : a0_1.toList = ([] : List UInt8)
    · rw [if_pos c5] at H
      have c5b0 : (a0_1.toList == ([] : List UInt8)) = true := beq_iff_eq.mpr c5
      have c5b1 : (a0_1.toList != ([] : List UInt8)) = false := bne_eq_false_iff_eq.mpr c5
      clear c5
      by_cases c6 : t176.size + 1 ≤ 9223372036854775807
      · rw [if_pos c6] at H
        have c6b0 := eq_true c6
        have c6b1 : decide (t176.size + 1 ≤ 9223372036854775807) = true := decide_eq_true c6
        try have c6b2 : (9223372036854775807 < t176.size + 1) = False := eq_false (Nat.not_lt.2 c6)
        simp only [Option.some.injEq, Prod.mk.injEq] at H
        obtain ⟨rfl, rfl⟩ := H
        go_enter Tryd.func75, Tryd.ntmps75
        go_wp2_with (first | ((with_reducible refine d_ 1 ?_); refine X_ 1 #[.int .i64 a0_0, .string a0_1] 34 ?_; intro gb174 hg w7 hbox hb; have BK174 := Aside0.mk hbox; have GW174 := Aside0.mk (s_ hg); have GE174 := GW174; have HB := bs_ hb; clear hb hbox hg; obtain ⟨hcz8_0, hcz8_1, hfz8_0, hfz8_1⟩ := c2_ BK174.out) | ((with_reducible refine gt_ 105 ?_); refine gd_ 7 Tryd.func105 (desc_Check.calls k a0_0 a0_1 t175 _ A2.out) ?_; intro w9 hb; have BK174 := kb_ BK174 hb; have HB := bs_ hb; (try clear hb); (try clear hb2); (try clear hk); (try clear hi); obtain ⟨hcz10_0, hcz10_1, hfz10_0, hfz10_1⟩ := c2_ BK174.out) | ((with_reducible refine gt_ 106 ?_); refine gd_ 13 Tryd.func106 (strings_Repeat.calls (⟨#[91]⟩ : ByteArray) a0_0 t176 _ A4.out) ?_; intro w11 hb; have BK174 := kb_ BK174 hb; have HB := bs_ hb; (try clear hb); (try clear hb2); (try clear hk); (try clear hi); obtain ⟨hcz12_0, hcz12_1, hfz12_0, hfz12_1⟩ := c2_ BK174.out))
        go_ret2
        exact ⟨E_, B_⟩
      · rw [if_neg c6] at H
        exact absurd H (by simp)
    · rw [if_neg c5] at H
      have c5b0 : (a0_1.toList == ([] : List UInt8)) = false := beq_eq_false_iff_ne.mpr c5
      have c5b1 : (a0_1.toList != ([] : List UInt8)) = true := bne_iff_ne.mpr c5
      by_cases c13 : t176.size + 1 ≤ 9223372036854775807
      · rw [if_pos c13] at H
        have c13b0 := eq_true c13
        have c13b1 : decide (t176.size + 1 ≤ 9223372036854775807) = true := decide_eq_true c13
        try have c13b2 : (9223372036854775807 < t176.size + 1) = False := eq_false (Nat.not_lt.2 c13)
        by_cases c14 : (t176 ++ (⟨#[76]⟩ : ByteArray)).size + a0_1.size ≤ 9223372036854775807
        · rw [if_pos c14] at H
          have c14b0 := eq_true c14
          have c14b1 : decide ((t176 ++ (⟨#[76]⟩ : ByteArray)).size + a0_1.size ≤ 9223372036854775807) = true := decide_eq_true c14
          try have c14b2 : (9223372036854775807 < (t176 ++ (⟨#[76]⟩ : ByteArray)).size + a0_1.size) = False := eq_false (Nat.not_lt.2 c14)
          (try (have c14b3 := c14b2; simp only [ByteArray.size_append, show (⟨#[76]⟩ : ByteArray).size = 1 from rfl] at c14b3))
          by_cases c15 : ((t176 ++ (⟨#[76]⟩ : ByteArray)) ++ a0_1).size + 1 ≤ 9223372036854775807
          · rw [if_pos c15] at H
            have c15b0 := eq_true c15
            have c15b1 : decide (((t176 ++ (⟨#[76]⟩ : ByteArray)) ++ a0_1).size + 1 ≤ 9223372036854775807) = true := decide_eq_true c15
            try have c15b2 : (9223372036854775807 < ((t176 ++ (⟨#[76]⟩ : ByteArray)) ++ a0_1).size + 1) = False := eq_false (Nat.not_lt.2 c15)
            (try (have c15b3 := c15b2; simp only [ByteArray.size_append, show (⟨#[76]⟩ : ByteArray).size = 1 from rfl] at c15b3))
            simp only [Option.some.injEq, Prod.mk.injEq] at H
            obtain ⟨rfl, rfl⟩ := H
            go_enter Tryd.func75, Tryd.ntmps75
            go_wp2_with (first | ((with_reducible refine d_ 1 ?_); refine X_ 1 #[.int .i64 a0_0, .string a0_1] 34 ?_; intro gb174 hg w16 hbox hb; have BK174 := Aside0.mk hbox; have GW174 := Aside0.mk (s_ hg); have GE174 := GW174; have HB := bs_ hb; clear hb hbox hg; obtain ⟨hcz17_0, hcz17_1, hfz17_0, hfz17_1⟩ := c2_ BK174.out) | ((with_reducible refine gt_ 105 ?_); refine gd_ 7 Tryd.func105 (desc_Check.calls k a0_0 a0_1 t175 _ A2.out) ?_; intro w18 hb; have BK174 := kb_ BK174 hb; have HB := bs_ hb; (try clear hb); (try clear hb2); (try clear hk); (try clear hi); obtain ⟨hcz19_0, hcz19_1, hfz19_0, hfz19_1⟩ := c2_ BK174.out) | ((with_reducible refine gt_ 106 ?_); refine gd_ 13 Tryd.func106 (strings_Repeat.calls (⟨#[91]⟩ : ByteArray) a0_0 t176 _ A4.out) ?_; intro w20 hb; have BK174 := kb_ BK174 hb; have HB := bs_ hb; (try clear hb); (try clear hb2); (try clear hk); (try clear hi); obtain ⟨hcz21_0, hcz21_1, hfz21_0, hfz21_1⟩ := c2_ BK174.out))
            go_ret2
            exact ⟨E_, B_⟩
          · rw [if_neg c15] at H
            exact absurd H (by simp)
        · rw [if_neg c14] at H
          exact absurd H (by simp)
      · rw [if_neg c13] at H
        exact absurd H (by simp)
  · rw [if_neg c3] at H
    have c3b0 : (t175 == 0) = false := beq_eq_false_iff_ne.mpr c3
    have c3b1 : (t175 != 0) = true := bne_iff_ne.mpr c3
    simp only [Option.some.injEq, Prod.mk.injEq] at H
    obtain ⟨rfl, rfl⟩ := H
    go_enter Tryd.func75, Tryd.ntmps75
    go_wp2_with (first | ((with_reducible refine d_ 1 ?_); refine X_ 1 #[.int .i64 a0_0, .string a0_1] 34 ?_; intro gb174 hg w22 hbox hb; have BK174 := Aside0.mk hbox; have GW174 := Aside0.mk (s_ hg); have GE174 := GW174; have HB := bs_ hb; clear hb hbox hg; obtain ⟨hcz23_0, hcz23_1, hfz23_0, hfz23_1⟩ := c2_ BK174.out) | ((with_reducible refine gt_ 105 ?_); refine gd_ 7 Tryd.func105 (desc_Check.calls k a0_0 a0_1 t175 _ A2.out) ?_; intro w24 hb; have BK174 := kb_ BK174 hb; have HB := bs_ hb; (try clear hb); (try clear hb2); (try clear hk); (try clear hi)))
    go_ret2
    exact ⟨E_, B_⟩
end Go.Proofs.YtldejfkplnejjaaDoor.P
