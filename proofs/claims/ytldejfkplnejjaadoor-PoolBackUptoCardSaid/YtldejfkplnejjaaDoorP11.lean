-- Written by my program xprint.py (a patched run of the kit's print). Lean checks it.
import Derived.Test.YtldejfkplnejjaaDoorP0
import Derived.Test.YtldejfkplnejjaaDoorP1
import Derived.Test.YtldejfkplnejjaaDoorExt
import Derived.Test.YtldejfkplnejjaaDoorShort
import Derived.Test.YtldejfkplnejjaaDoorShort2
namespace Go.Proofs.YtldejfkplnejjaaDoor.P
open Go.RowKit Go.Proofs.YtldejfkplnejjaaDoorW.PrintWords Go.Proofs.YtldejfkplnejjaaDoorW.PrintLast Go.Proofs.YtldejfkplnejjaaDoorW.PrintMore
attribute [local go_sem] max2_int min2_int max_two min_two max_three min_three max_four min_four   -- for this text's walks alone
set_option linter.unusedVariables false
set_option linter.unusedSimpArgs false
attribute [local go_sem high] eqA34
mutual
def keystoneref2_Same.j0 : Nat → Bool → List (S34) → Bool → Int → ByteArray → List (S34) → Bool → Int → ByteArray → Option (Bool)
  | 0, _, _, _, _, _, _, _, _, _ => none
  | k + 1, x26, x288000, x288001, x288002, x288003, x289000, x289001, x289002, x289003 => if x26 = true then (some false) else (keystoneref2_Same.l0 k 0 x288000 x288001 x288002 x288003 x289000 x289001 x289002 x289003)
def keystoneref2_Same.l0 : Nat → Int → List (S34) → Bool → Int → ByteArray → List (S34) → Bool → Int → ByteArray → Option (Bool)
  | 0, _, _, _, _, _, _, _, _, _ => none
  | k + 1, x5, x288000, x288001, x288002, x288003, x289000, x289001, x289002, x289003 => if x5 < (x288000.length : Int) then (if 0 ≤ x5 then (if x5 < (x289000.length : Int) then (if (!(((rd_T34 x288000 x5).f0) == ((rd_T34 x289000 x5).f0)) || (!((((rd_T34 x288000 x5).f1).toList) == (((rd_T34 x289000 x5).f1).toList)))) = true then (some false) else (keystoneref2_Same.l0 k (wrap64 (x5 + 1)) x288000 x288001 x288002 x288003 x289000 x289001 x289002 x289003)) else (none)) else (none)) else (some true)
end
def keystoneref2_Same.f (k : Nat) (l0_0 : List (S34)) (a0_1 : Bool) (a0_2 : Int) (a0_3 : ByteArray) (l1_0 : List (S34)) (a1_1 : Bool) (a1_2 : Int) (a1_3 : ByteArray) : Option (Bool) := if (a0_1 != a1_1) = true then (keystoneref2_Same.j0 k true l0_0 a0_1 a0_2 a0_3 l1_0 a1_1 a1_2 a1_3) else (if (!(a0_2 == a1_2) || (!(a0_3.toList == a1_3.toList))) = true then (keystoneref2_Same.j0 k true l0_0 a0_1 a0_2 a0_3 l1_0 a1_1 a1_2 a1_3) else (keystoneref2_Same.j0 k ((l0_0.length : Int) != (l1_0.length : Int)) l0_0 a0_1 a0_2 a0_3 l1_0 a1_1 a1_2 a1_3))
set_option maxHeartbeats 8000000 in
set_option maxRecDepth 100000 in
theorem keystoneref2_Same.calls (k : Nat) (A0_0 : Option Addr) (c0_0 : Nat) (l0_0 : List (S34)) (a0_1 : Bool) (a0_2 : Int) (a0_3 : ByteArray) (A1_0 : Option Addr) (c1_0 : Nat) (l1_0 : List (S34)) (a1_1 : Bool) (a1_2 : Int) (a1_3 : ByteArray) (r : Bool) (w : World) (hr0_0 : Kd.C k34 w A0_0 l0_0.length l0_0) (hc0_0 : l0_0.length ≤ c0_0) (hr1_0 : Kd.C k34 w A1_0 l1_0.length l1_0) (hc1_0 : l1_0.length ≤ c1_0) (h : keystoneref2_Same.f k l0_0 a0_1 a0_2 a0_3 l1_0 a1_1 a1_2 a1_3 = some r) :
    Calls Tryd.prog 22 #[.agg #[.slice A0_0 l0_0.length c0_0, .bool a0_1, .int .i64 a0_2, .string a0_3], .agg #[.slice A1_0 l1_0.length c1_0, .bool a1_1, .int .i64 a1_2, .string a1_3]] w fun e w' => e = .returned (.bool r) ∧ Below w.heap.size w w' := by
  have hu39 := Tryd.underlying39
  have hu34 := Tryd.underlying34
  have HR0_0 := Aside0.mk hr0_0
  have HC0_0 := Aside0.mk hc0_0
  clear hr0_0 hc0_0
  have HR1_0 := Aside0.mk hr1_0
  have HC1_0 := Aside0.mk hc1_0
  clear hr1_0 hc1_0
  have HB := Aside0.mk (Below.refl w.heap.size w)
  have H : (if (a0_1 != a1_1) = true then (keystoneref2_Same.j0 k true l0_0 a0_1 a0_2 a0_3 l1_0 a1_1 a1_2 a1_3) else (if (!(a0_2 == a1_2) || (!(a0_3.toList == a1_3.toList))) = true then (keystoneref2_Same.j0 k true l0_0 a0_1 a0_2 a0_3 l1_0 a1_1 a1_2 a1_3) else (keystoneref2_Same.j0 k ((l0_0.length : Int) != (l1_0.length : Int)) l0_0 a0_1 a0_2 a0_3 l1_0 a1_1 a1_2 a1_3))) = some r := h
  clear h
  have HC3 := Aside0.mk H
  clear H
  go_enter Tryd.func22, Tryd.ntmps22
  go_upto_region 1 with (first | ((with_reducible refine d_ 2 ?_); (try (refine gate_guard (by rfl) ?_; dsimp only)); refine X_ 2 #[.slice A0_0 l0_0.length c0_0, .bool a0_1, .int .i64 a0_2, .string a0_3] 39 ?_; intro gb287 hg w4 hbox hb; have BK287 := Aside0.mk hbox; have GW287 := Aside0.mk (s_ hg); have GE287 := GW287; have HB := bs_ hb; clear hb hbox hg) | ((with_reducible refine d_ 3 ?_); (try (refine gate_guard (by rfl) ?_; dsimp only)); refine X_ 3 #[.slice A1_0 l1_0.length c1_0, .bool a1_1, .int .i64 a1_2, .string a1_3] 39 ?_; intro gb288 hg w5 hbox hb; have BK288 := Aside0.mk hbox; have GW288 := Aside0.mk (s_ hg); have GE288 := GW288; have NB287_288 := Aside0.mk (xx_ hg BK287); have BK287 := kb_ BK287 hb; have NB288_287 := Aside0.mk NB287_288.out.symm; have HB := bs_ hb; clear hb hbox hg))
  repeat (go_quiet (first | ((with_reducible refine d_ 2 ?_); (try (refine gate_guard (by rfl) ?_; dsimp only)); refine X_ 2 #[.slice A0_0 l0_0.length c0_0, .bool a0_1, .int .i64 a0_2, .string a0_3] 39 ?_; intro gb287 hg w4 hbox hb; have BK287 := Aside0.mk hbox; have GW287 := Aside0.mk (s_ hg); have GE287 := GW287; have HB := bs_ hb; clear hb hbox hg) | ((with_reducible refine d_ 3 ?_); (try (refine gate_guard (by rfl) ?_; dsimp only)); refine X_ 3 #[.slice A1_0 l1_0.length c1_0, .bool a1_1, .int .i64 a1_2, .string a1_3] 39 ?_; intro gb288 hg w5 hbox hb; have BK288 := Aside0.mk hbox; have GW288 := Aside0.mk (s_ hg); have GE288 := GW288; have NB287_288 := Aside0.mk (xx_ hg BK287); have BK287 := kb_ BK287 hb; have NB288_287 := Aside0.mk NB287_288.out.symm; have HB := bs_ hb; clear hb hbox hg)); go_upto_region 1 with (first | ((with_reducible refine d_ 2 ?_); (try (refine gate_guard (by rfl) ?_; dsimp only)); refine X_ 2 #[.slice A0_0 l0_0.length c0_0, .bool a0_1, .int .i64 a0_2, .string a0_3] 39 ?_; intro gb287 hg w4 hbox hb; have BK287 := Aside0.mk hbox; have GW287 := Aside0.mk (s_ hg); have GE287 := GW287; have HB := bs_ hb; clear hb hbox hg) | ((with_reducible refine d_ 3 ?_); (try (refine gate_guard (by rfl) ?_; dsimp only)); refine X_ 3 #[.slice A1_0 l1_0.length c1_0, .bool a1_1, .int .i64 a1_2, .string a1_3] 39 ?_; intro gb288 hg w5 hbox hb; have BK288 := Aside0.mk hbox; have GW288 := Aside0.mk (s_ hg); have GE288 := GW288; have NB287_288 := Aside0.mk (xx_ hg BK287); have BK287 := kb_ BK287 hb; have NB288_287 := Aside0.mk NB287_288.out.symm; have HB := bs_ hb; clear hb hbox hg)))
  (try simp only [Act.put, List.setIfInBounds_toArray, List.set_cons_zero, List.set_cons_succ])
  go_cut [26] (fun v26 wc => ∃ (kq : Nat) (x26_2 : Bool), v26 = .bool x26_2 ∧ Aside0 (keystoneref2_Same.j0 kq x26_2 l0_0 a0_1 a0_2 a0_3 l1_0 a1_1 a1_2 a1_3 = some r) ∧ Aside0 (kq ≤ k) ∧ Aside0 (wc.heap[gb287]? = some (.cells #[(.slice A0_0 l0_0.length c0_0), .bool a0_1, .int .i64 a0_2, .string a0_3] 39 (0, 0))) ∧ Aside0 (wc.heap[gb288]? = some (.cells #[(.slice A1_0 l1_0.length c1_0), .bool a1_1, .int .i64 a1_2, .string a1_3] 39 (0, 0))) ∧ Aside0 (Below w.heap.size w wc))
  case first =>
    have H := HC3.out
    clear HC3
    by_cases c6 : (a0_1 != a1_1) = true
    · rw [if_pos c6] at H
      have c6b0 : (a0_1 != a1_1) = true := c6
      (try (have c6b1 : decide (a0_1 = a1_1) = false := by simpa using c6))
      (try (have c6b2 : (a0_1 == a1_1) = false := by simpa using c6))
      (try (have c6b3 : ¬ (a0_1 = a1_1) := by simpa using c6))
      clear c6
      (first | rw [c6b0] | (simp only [i64_w, i32_w]; rw [c6b0]) | skip)
      have H' := Aside0.mk H
      clear H
      have hnb7 := NB287_288.out
      have hnc7 := NB288_287.out
      obtain ⟨hcz8_0, hcz8_1, hcz8_2, hcz8_3, hfz8_0, hfz8_1, hfz8_2, hfz8_3⟩ := c4_ BK287.out
      obtain ⟨hcz9_0, hcz9_1, hcz9_2, hcz9_3, hfz9_0, hfz9_1, hfz9_2, hfz9_3⟩ := c4_ BK288.out
      go_wp2
      repeat (go_quiet (fail); try go_wp2)
      go_meet
      case rel => exact ⟨_, (true), R_, H', ⟨by first | omega | exact Nat.le_refl _⟩, ⟨M_⟩, ⟨M_⟩, ⟨B_⟩⟩
    · rw [if_neg c6] at H
      have c6b0 : (a0_1 != a1_1) = false := by simpa using c6
      (try (have c6b1 : decide (a0_1 = a1_1) = true := by simpa using c6))
      (try (have c6b2 : (a0_1 == a1_1) = true := by simpa using c6))
      clear c6
      (first | rw [c6b0] | (simp only [i64_w, i32_w]; rw [c6b0]) | skip)
      by_cases c10 : (!(a0_2 == a1_2) || (!(a0_3.toList == a1_3.toList))) = true
      · rw [if_pos c10] at H
        have c10b0 : (!(a0_2 == a1_2) || (!(a0_3.toList == a1_3.toList))) = true := c10
        clear c10
        have H' := Aside0.mk H
        clear H
        have hnb11 := NB287_288.out
        have hnc11 := NB288_287.out
        obtain ⟨hcz12_0, hcz12_1, hcz12_2, hcz12_3, hfz12_0, hfz12_1, hfz12_2, hfz12_3⟩ := c4_ BK287.out
        obtain ⟨hcz13_0, hcz13_1, hcz13_2, hcz13_3, hfz13_0, hfz13_1, hfz13_2, hfz13_3⟩ := c4_ BK288.out
        go_wp2
        repeat (go_quiet (fail); try go_wp2)
        go_meet
        case rel => exact ⟨_, (true), R_, H', ⟨by first | omega | exact Nat.le_refl _⟩, ⟨M_⟩, ⟨M_⟩, ⟨B_⟩⟩
      · rw [if_neg c10] at H
        have c10b0 : (!(a0_2 == a1_2) || (!(a0_3.toList == a1_3.toList))) = false := by simpa using c10
        clear c10
        have H' := Aside0.mk H
        clear H
        have hnb14 := NB287_288.out
        have hnc14 := NB288_287.out
        obtain ⟨hcz15_0, hcz15_1, hcz15_2, hcz15_3, hfz15_0, hfz15_1, hfz15_2, hfz15_3⟩ := c4_ BK287.out
        obtain ⟨hcz16_0, hcz16_1, hcz16_2, hcz16_3, hfz16_0, hfz16_1, hfz16_2, hfz16_3⟩ := c4_ BK288.out
        go_wp2
        repeat (go_quiet (fail); try go_wp2)
        go_meet
        case rel => exact ⟨_, (((l0_0.length : Int) != (l1_0.length : Int))), R_, H', ⟨by first | omega | exact Nat.le_refl _⟩, ⟨M_⟩, ⟨M_⟩, ⟨B_⟩⟩
  case rest =>
    clear HC3
    try clear c1
    try clear c2
    try clear p2
    try clear c6
    try clear c6b0
    try clear c6b1
    try clear c6b2
    try clear c7
    try clear c10
    try clear c10b0
    try clear c11
    try clear c14
    try clear hcz12_0 hcz12_1 hcz12_2 hcz12_3 hfz12_0 hfz12_1 hfz12_2 hfz12_3
    try clear hcz13_0 hcz13_1 hcz13_2 hcz13_3 hfz13_0 hfz13_1 hfz13_2 hfz13_3
    try clear hcz15_0 hcz15_1 hcz15_2 hcz15_3 hfz15_0 hfz15_1 hfz15_2 hfz15_3
    try clear hcz16_0 hcz16_1 hcz16_2 hcz16_3 hfz16_0 hfz16_1 hfz16_2 hfz16_3
    try clear hcz8_0 hcz8_1 hcz8_2 hcz8_3 hfz8_0 hfz8_1 hfz8_2 hfz8_3
    try clear hcz9_0 hcz9_1 hcz9_2 hcz9_3 hfz9_0 hfz9_1 hfz9_2 hfz9_3
    obtain ⟨kq, x26_2, rfl, HA, HJ2, BK287, BK288, HB⟩ := hcut
    cases kq with
    | zero => exact absurd HA.out (by simp [keystoneref2_Same.j0])
    | succ kj2 =>
      have H := HA.out
      clear HA
      simp only [keystoneref2_Same.j0] at H
      by_cases c17 : x26_2 = true
      · subst c17
        have H1 : (some false) = some r := by rw [if_pos rfl] at H; exact H
        clear H
        have H := H1
        clear H1
        obtain rfl := Option.some.inj H
        go_wp2
        repeat (go_quiet (fail); try go_wp2)
        go_ret
        exact ⟨E_, B_⟩
      · replace c17 := Bool.eq_false_iff.mpr c17
        subst c17
        have H1 : (keystoneref2_Same.l0 kj2 0 l0_0 a0_1 a0_2 a0_3 l1_0 a1_1 a1_2 a1_3) = some r := by rw [if_neg (show ¬ (false = true) by decide)] at H; exact H
        clear H
        have H := H1
        clear H1
        have H' := Aside0.mk H
        clear H
        go_wp2
        repeat (go_quiet (fail); try go_wp2)
        go_loopg [5] kj2 (fun kq v5 w' => ∃ (x5_2 : Int), v5 = .int .i64 x5_2 ∧ Aside0 (keystoneref2_Same.l0 kq x5_2 l0_0 a0_1 a0_2 a0_3 l1_0 a1_1 a1_2 a1_3 = some r) ∧ Aside0 (kq ≤ kj2) ∧ Aside0 (w'.heap[gb287]? = some (.cells #[(.slice A0_0 l0_0.length c0_0), .bool a0_1, .int .i64 a0_2, .string a0_3] 39 (0, 0))) ∧ Aside0 (w'.heap[gb288]? = some (.cells #[(.slice A1_0 l1_0.length c1_0), .bool a1_1, .int .i64 a1_2, .string a1_3] 39 (0, 0))) ∧ Aside0 (Below w.heap.size w w'))
        case atStart => exact ⟨(0), R_, H', ⟨Nat.le_refl _⟩, ⟨M_⟩, ⟨M_⟩, ⟨B_⟩⟩
        case round =>
          clear H'
          try clear c1
          try clear c2
          try clear p2
          try clear c6
          try clear c6b0
          try clear c6b1
          try clear c6b2
          try clear c7
          try clear c10
          try clear c10b0
          try clear c11
          try clear c14
          try clear c17
          try clear hcz12_0 hcz12_1 hcz12_2 hcz12_3 hfz12_0 hfz12_1 hfz12_2 hfz12_3
          try clear hcz13_0 hcz13_1 hcz13_2 hcz13_3 hfz13_0 hfz13_1 hfz13_2 hfz13_3
          try clear hcz15_0 hcz15_1 hcz15_2 hcz15_3 hfz15_0 hfz15_1 hfz15_2 hfz15_3
          try clear hcz16_0 hcz16_1 hcz16_2 hcz16_3 hfz16_0 hfz16_1 hfz16_2 hfz16_3
          try clear hcz8_0 hcz8_1 hcz8_2 hcz8_3 hfz8_0 hfz8_1 hfz8_2 hfz8_3
          try clear hcz9_0 hcz9_1 hcz9_2 hcz9_3 hfz9_0 hfz9_1 hfz9_2 hfz9_3
          try clear p2
          obtain ⟨x5_2, rfl, HA, HK2, BK287, BK288, HB⟩ := hrel
          cases gk with
          | zero => exact absurd HA.out (by simp [keystoneref2_Same.l0])
          | succ k2 =>
            have H := HA.out
            clear HA
            simp only [keystoneref2_Same.l0] at H
            by_cases c18 : x5_2 < (l0_0.length : Int)
            · rw [if_pos c18] at H
              have c18b0 : decide (x5_2 < (l0_0.length : Int)) = true := decide_eq_true c18
              clear c18
              by_cases c19 : 0 ≤ x5_2
              · rw [if_pos c19] at H
                have c19b0 : decide (0 ≤ x5_2) = true := decide_eq_true c19
                clear c19
                by_cases c20 : x5_2 < (l1_0.length : Int)
                · rw [if_pos c20] at H
                  have c20b0 : decide (x5_2 < (l1_0.length : Int)) = true := decide_eq_true c20
                  clear c20
                  by_cases c21 : (!(((rd_T34 l0_0 x5_2).f0) == ((rd_T34 l1_0 x5_2).f0)) || (!((((rd_T34 l0_0 x5_2).f1).toList) == (((rd_T34 l1_0 x5_2).f1).toList)))) = true
                  · rw [if_pos c21] at H
                    have c21b0 : (!(((rd_T34 l0_0 x5_2).f0) == ((rd_T34 l1_0 x5_2).f0)) || (!((((rd_T34 l0_0 x5_2).f1).toList) == (((rd_T34 l1_0 x5_2).f1).toList)))) = true := c21
                    clear c21
                    obtain rfl := Option.some.inj H
                    have hnb22 := NB287_288.out
                    have hnc22 := NB288_287.out
                    obtain ⟨hcz23_0, hcz23_1, hcz23_2, hcz23_3, hfz23_0, hfz23_1, hfz23_2, hfz23_3⟩ := c4_ BK287.out
                    have p289 : 0 ≤ (x5_2 : Int) := of_decide_eq_true A_
                    have q289 : x5_2 < (l0_0.length : Int) := of_decide_eq_true A_
                    obtain ⟨ad289, e289, hx289_0, hx289_1⟩ := at_T34 HR0_0.out x5_2 p289 q289
                    cases e289
                    replace hx289_0 := h_ HB hx289_0
                    replace hx289_1 := h_ HB hx289_1
                    replace p289 := eq_true p289
                    replace q289 := eq_true q289
                    obtain ⟨hcz24_0, hcz24_1, hcz24_2, hcz24_3, hfz24_0, hfz24_1, hfz24_2, hfz24_3⟩ := c4_ BK288.out
                    have p290 : 0 ≤ (x5_2 : Int) := of_decide_eq_true A_
                    have q290 : x5_2 < (l1_0.length : Int) := of_decide_eq_true A_
                    obtain ⟨ad290, e290, hx290_0, hx290_1⟩ := at_T34 HR1_0.out x5_2 p290 q290
                    cases e290
                    replace hx290_0 := h_ HB hx290_0
                    replace hx290_1 := h_ HB hx290_1
                    replace p290 := eq_true p290
                    replace q290 := eq_true q290
                    go_wp2
                    repeat (go_quiet (fail); try go_wp2)
                    go_ret
                    exact ⟨E_, B_⟩
                  · rw [if_neg c21] at H
                    have c21b0 : (!(((rd_T34 l0_0 x5_2).f0) == ((rd_T34 l1_0 x5_2).f0)) || (!((((rd_T34 l0_0 x5_2).f1).toList) == (((rd_T34 l1_0 x5_2).f1).toList)))) = false := by simpa using c21
                    clear c21
                    have H' := Aside0.mk H
                    clear H
                    have hnb25 := NB287_288.out
                    have hnc25 := NB288_287.out
                    obtain ⟨hcz26_0, hcz26_1, hcz26_2, hcz26_3, hfz26_0, hfz26_1, hfz26_2, hfz26_3⟩ := c4_ BK287.out
                    have p289 : 0 ≤ (x5_2 : Int) := of_decide_eq_true A_
                    have q289 : x5_2 < (l0_0.length : Int) := of_decide_eq_true A_
                    obtain ⟨ad289, e289, hx289_0, hx289_1⟩ := at_T34 HR0_0.out x5_2 p289 q289
                    cases e289
                    replace hx289_0 := h_ HB hx289_0
                    replace hx289_1 := h_ HB hx289_1
                    replace p289 := eq_true p289
                    replace q289 := eq_true q289
                    obtain ⟨hcz27_0, hcz27_1, hcz27_2, hcz27_3, hfz27_0, hfz27_1, hfz27_2, hfz27_3⟩ := c4_ BK288.out
                    have p290 : 0 ≤ (x5_2 : Int) := of_decide_eq_true A_
                    have q290 : x5_2 < (l1_0.length : Int) := of_decide_eq_true A_
                    obtain ⟨ad290, e290, hx290_0, hx290_1⟩ := at_T34 HR1_0.out x5_2 p290 q290
                    cases e290
                    replace hx290_0 := h_ HB hx290_0
                    replace hx290_1 := h_ HB hx290_1
                    replace p290 := eq_true p290
                    replace q290 := eq_true q290
                    go_wp2
                    repeat (go_quiet (fail); try go_wp2)
                    go_roundg k2
                    case measure => have := HJ2.out; have := HK2.out; omega
                    case rel => exact ⟨(wrap64 (x5_2 + 1)), R_, H', ⟨by have := HJ2.out; have := HK2.out; omega⟩, ⟨M_⟩, ⟨M_⟩, ⟨B_⟩⟩
                · rw [if_neg c20] at H
                  exact absurd H (by simp)
              · rw [if_neg c19] at H
                exact absurd H (by simp)
            · rw [if_neg c18] at H
              have c18b0 : decide (x5_2 < (l0_0.length : Int)) = false := decide_eq_false c18
              clear c18
              obtain rfl := Option.some.inj H
              have hnb28 := NB287_288.out
              have hnc28 := NB288_287.out
              obtain ⟨hcz29_0, hcz29_1, hcz29_2, hcz29_3, hfz29_0, hfz29_1, hfz29_2, hfz29_3⟩ := c4_ BK287.out
              go_wp2
              repeat (go_quiet (fail); try go_wp2)
              go_ret
              exact ⟨E_, B_⟩
end Go.Proofs.YtldejfkplnejjaaDoor.P
