-- Written by my program xprint.py (a patched run of the kit's print). Lean checks it.
import Derived.Test.YtldejfkplnejjaaDoorP0
import Derived.Test.YtldejfkplnejjaaDoorP1
import Derived.Test.YtldejfkplnejjaaDoorP6
import Derived.Test.YtldejfkplnejjaaDoorP7
import Derived.Test.YtldejfkplnejjaaDoorP10
import Derived.Test.YtldejfkplnejjaaDoorP11
import Derived.Test.YtldejfkplnejjaaDoorP13
import Derived.Test.YtldejfkplnejjaaDoorExt
import Derived.Test.YtldejfkplnejjaaDoorShort
import Derived.Test.YtldejfkplnejjaaDoorShort2
namespace Go.Proofs.YtldejfkplnejjaaDoor.P
open Go.RowKit Go.Proofs.YtldejfkplnejjaaDoorW.PrintWords Go.Proofs.YtldejfkplnejjaaDoorW.PrintLast Go.Proofs.YtldejfkplnejjaaDoorW.PrintMore
attribute [local go_sem] max2_int min2_int max_two min_two max_three min_three max_four min_four   -- for this text's walks alone
set_option linter.unusedVariables false
set_option linter.unusedSimpArgs false

attribute [local go_sem high] eqA34
/-! ### keystoneref3_held: function 83 -/
def keystoneref3_held.f (k : Nat) (l0 : List (S50)) (a1 : Int) (a2 : Int) : Option (Int) := (keystoneref3_is.f l0 a1 a2).bind fun t514 => (if t514 = true then ((keystoneref3_Wrong.f k l0 a1).bind fun t515 => (if t515 = 0 then (if a2 ≥ 5 then (if 0 ≤ a1 then (if a1 < (l0.length : Int) then ((keystoneref3_Wrong.f k l0 ((rd_T50 l0 a1).f3)).bind fun t517 => (some t517)) else (none)) else (none)) else (some t515)) else (some t515))) else (some 16))
theorem keystoneref3_held.mono : ∀ a0 a1 a2 k, LeO (keystoneref3_held.f k a0 a1 a2) (keystoneref3_held.f (k + 1) a0 a1 a2) := by
  intro a0 a1 a2 k
  unfold keystoneref3_held.f
  repeat' first
      | (with_reducible exact keystoneref3_Wrong.mono _ _ _)
      | (with_reducible exact LeO.refl _)
      | (with_reducible exact LeO.none _)
      | (with_reducible refine LeO.ite ?_ ?_)
      | (with_reducible refine LeO.bind ?_ (fun _ => ?_))
      | exact keystoneref3_Wrong.mono _ _ _
      | exact LeO.none _
      | refine LeO.ite ?_ ?_
      | refine LeO.bind ?_ (fun _ => ?_)
set_option maxHeartbeats 8000000 in
set_option maxRecDepth 100000 in
theorem keystoneref3_held.calls (k : Nat) (A0 : Option Addr) (c0 : Nat) (l0 : List (S50)) (a1 : Int) (a2 : Int) (r : Int) (w : World) (hr0 : Kd.C k50 w A0 l0.length l0) (hc0 : l0.length ≤ c0) (h : keystoneref3_held.f k l0 a1 a2 = some r) :
    Calls Tryd.prog 83 #[.slice A0 l0.length c0, .int .i64 a1, .int .i64 a2] w fun e w' => e = .returned (.int .i64 r) ∧ Below w.heap.size w w' := by
  have HR0 := Aside0.mk hr0
  have HC0 := Aside0.mk hc0
  clear hr0 hc0
  have HB := Aside0.mk (Below.refl w.heap.size w)
  have H : ((keystoneref3_is.f l0 a1 a2).bind fun t514 => (if t514 = true then ((keystoneref3_Wrong.f k l0 a1).bind fun t515 => (if t515 = 0 then (if a2 ≥ 5 then (if 0 ≤ a1 then (if a1 < (l0.length : Int) then ((keystoneref3_Wrong.f k l0 ((rd_T50 l0 a1).f3)).bind fun t517 => (some t517)) else (none)) else (none)) else (some t515)) else (some t515))) else (some 16))) = some r := h
  clear h
  replace H := Option.bind_eq_some_iff.mp H
  obtain ⟨t514, A40, H⟩ := H
  replace H : (if t514 = true then ((keystoneref3_Wrong.f k l0 a1).bind fun t515 => (if t515 = 0 then (if a2 ≥ 5 then (if 0 ≤ a1 then (if a1 < (l0.length : Int) then ((keystoneref3_Wrong.f k l0 ((rd_T50 l0 a1).f3)).bind fun t517 => (some t517)) else (none)) else (none)) else (some t515)) else (some t515))) else (some 16)) = some r := H
  have A4 := Aside0.mk A40
  clear A40
  by_cases c5 : t514 = true
  · subst c5
    have H1 : ((keystoneref3_Wrong.f k l0 a1).bind fun t515 => (if t515 = 0 then (if a2 ≥ 5 then (if 0 ≤ a1 then (if a1 < (l0.length : Int) then ((keystoneref3_Wrong.f k l0 ((rd_T50 l0 a1).f3)).bind fun t517 => (some t517)) else (none)) else (none)) else (some t515)) else (some t515))) = some r := by rw [if_pos rfl] at H; exact H
    clear H
    have H := H1
    clear H1
    replace H := Option.bind_eq_some_iff.mp H
    obtain ⟨t515, A60, H⟩ := H
    replace H : (if t515 = 0 then (if a2 ≥ 5 then (if 0 ≤ a1 then (if a1 < (l0.length : Int) then ((keystoneref3_Wrong.f k l0 ((rd_T50 l0 a1).f3)).bind fun t517 => (some t517)) else (none)) else (none)) else (some t515)) else (some t515)) = some r := H
    have A6 := Aside0.mk A60
    clear A60
    by_cases c7 : t515 = 0
    · rw [if_pos c7] at H
      have c7b0 : (t515 == 0) = true := beq_iff_eq.mpr c7
      have c7b1 : (t515 != 0) = false := bne_eq_false_iff_eq.mpr c7
      clear c7
      by_cases c8 : a2 ≥ 5
      · rw [if_pos c8] at H
        have c8b0 : decide (5 ≤ a2) = true := decide_eq_true c8
        clear c8
        by_cases c9 : 0 ≤ a1
        · rw [if_pos c9] at H
          have c9b0 : decide (0 ≤ a1) = true := decide_eq_true c9
          clear c9
          by_cases c10 : a1 < (l0.length : Int)
          · rw [if_pos c10] at H
            have c10b0 : decide (a1 < (l0.length : Int)) = true := decide_eq_true c10
            clear c10
            replace H := Option.bind_eq_some_iff.mp H
            obtain ⟨t517, A110, H⟩ := H
            replace H : (some t517) = some r := H
            have A11 := Aside0.mk A110
            clear A110
            obtain rfl := Option.some.inj H
            go_enter Tryd.func83, Tryd.ntmps83
            go_wp2_with (first | ((with_reducible refine gt_ 79 ?_); refine gc_ 11 Tryd.func79 #[.slice A0 l0.length c0, .int .i64 a1, .int .i64 a2] ?_; (with_reducible refine (keystoneref3_is.calls _ _ l0 a1 a2 true _ ?side1 ?side2 A4.out).mono ?_); (case side1 => exact Y_ HR0.out); (case side2 => exact HC0.out); rintro e w' ⟨rfl, ⟨nd, rfl⟩⟩; refine ⟨_, rfl, ?_⟩) | ((with_reducible refine gt_ 40 ?_); refine gc_ 15 Tryd.func40 #[.slice A0 l0.length c0, .int .i64 a1] ?_; (with_reducible refine (keystoneref3_Wrong.calls k _ _ l0 a1 t515 _ ?side1 ?side2 A6.out).mono ?_); (case side1 => exact Y_ HR0.out); (case side2 => exact HC0.out); rintro e w12 ⟨rfl, hb⟩; refine ⟨_, rfl, ?_⟩; have n0_ := Aside0.mk (below_step B_ hb); clear HB; have HB := n0_; clear n0_; (try clear hb); (try clear hb2); (try clear hk); (try clear hi); have p516 : 0 ≤ (a1 : Int) := of_decide_eq_true A_; have q516 : a1 < (l0.length : Int) := of_decide_eq_true A_; obtain ⟨ad516, e516, hx516_0, hx516_1, hx516_2, hx516_3, hx516_4, hx516_5⟩ := at_T50 HR0.out a1 p516 q516; cases e516; replace hx516_0 := h_ HB hx516_0; replace hx516_1 := h_ HB hx516_1; replace hx516_2 := h_ HB hx516_2; replace hx516_3 := h_ HB hx516_3; replace hx516_4 := h_ HB hx516_4; replace hx516_5 := h_ HB hx516_5; replace p516 := eq_true p516; replace q516 := eq_true q516) | ((with_reducible refine gt_ 40 ?_); refine gc_ 28 Tryd.func40 #[.slice (some ad516) l0.length c0, .int .i64 ((rd_T50 l0 a1).f3)] ?_; (with_reducible refine (keystoneref3_Wrong.calls k _ _ l0 ((rd_T50 l0 a1).f3) t517 _ ?side1 ?side2 A11.out).mono ?_); (case side1 => exact Y_ (Kd.C_below HR0.out HB.out)); (case side2 => exact HC0.out); rintro e w13 ⟨rfl, hb⟩; refine ⟨_, rfl, ?_⟩; have n0_ := Aside0.mk (below_step B_ hb); clear HB; have HB := n0_; clear n0_; (try clear hb); (try clear hb2); (try clear hk); (try clear hi)))
            go_ret
            exact ⟨E_, B_⟩
          · rw [if_neg c10] at H
            exact absurd H (by simp)
        · rw [if_neg c9] at H
          exact absurd H (by simp)
      · rw [if_neg c8] at H
        have c8b0 : decide (5 ≤ a2) = false := decide_eq_false c8
        clear c8
        obtain rfl := Option.some.inj H
        go_enter Tryd.func83, Tryd.ntmps83
        go_wp2_with (first | ((with_reducible refine gt_ 79 ?_); refine gc_ 11 Tryd.func79 #[.slice A0 l0.length c0, .int .i64 a1, .int .i64 a2] ?_; (with_reducible refine (keystoneref3_is.calls _ _ l0 a1 a2 true _ ?side1 ?side2 A4.out).mono ?_); (case side1 => exact Y_ HR0.out); (case side2 => exact HC0.out); rintro e w' ⟨rfl, ⟨nd, rfl⟩⟩; refine ⟨_, rfl, ?_⟩) | ((with_reducible refine gt_ 40 ?_); refine gc_ 15 Tryd.func40 #[.slice A0 l0.length c0, .int .i64 a1] ?_; (with_reducible refine (keystoneref3_Wrong.calls k _ _ l0 a1 t515 _ ?side1 ?side2 A6.out).mono ?_); (case side1 => exact Y_ HR0.out); (case side2 => exact HC0.out); rintro e w14 ⟨rfl, hb⟩; refine ⟨_, rfl, ?_⟩; have n0_ := Aside0.mk (below_step B_ hb); clear HB; have HB := n0_; clear n0_; (try clear hb); (try clear hb2); (try clear hk); (try clear hi)))
        go_ret
        exact ⟨E_, B_⟩
    · rw [if_neg c7] at H
      have c7b0 : (t515 == 0) = false := beq_eq_false_iff_ne.mpr c7
      have c7b1 : (t515 != 0) = true := bne_iff_ne.mpr c7
      obtain rfl := Option.some.inj H
      go_enter Tryd.func83, Tryd.ntmps83
      go_wp2_with (first | ((with_reducible refine gt_ 79 ?_); refine gc_ 11 Tryd.func79 #[.slice A0 l0.length c0, .int .i64 a1, .int .i64 a2] ?_; (with_reducible refine (keystoneref3_is.calls _ _ l0 a1 a2 true _ ?side1 ?side2 A4.out).mono ?_); (case side1 => exact Y_ HR0.out); (case side2 => exact HC0.out); rintro e w' ⟨rfl, ⟨nd, rfl⟩⟩; refine ⟨_, rfl, ?_⟩) | ((with_reducible refine gt_ 40 ?_); refine gc_ 15 Tryd.func40 #[.slice A0 l0.length c0, .int .i64 a1] ?_; (with_reducible refine (keystoneref3_Wrong.calls k _ _ l0 a1 t515 _ ?side1 ?side2 A6.out).mono ?_); (case side1 => exact Y_ HR0.out); (case side2 => exact HC0.out); rintro e w15 ⟨rfl, hb⟩; refine ⟨_, rfl, ?_⟩; have n0_ := Aside0.mk (below_step B_ hb); clear HB; have HB := n0_; clear n0_; (try clear hb); (try clear hb2); (try clear hk); (try clear hi)))
      go_ret
      exact ⟨E_, B_⟩
  · replace c5 := Bool.eq_false_iff.mpr c5
    subst c5
    have H1 : (some 16) = some r := by rw [if_neg (show ¬ (false = true) by decide)] at H; exact H
    clear H
    have H := H1
    clear H1
    obtain rfl := Option.some.inj H
    go_enter Tryd.func83, Tryd.ntmps83
    go_wp2_with (first | ((with_reducible refine gt_ 79 ?_); refine gc_ 11 Tryd.func79 #[.slice A0 l0.length c0, .int .i64 a1, .int .i64 a2] ?_; (with_reducible refine (keystoneref3_is.calls _ _ l0 a1 a2 false _ ?side1 ?side2 A4.out).mono ?_); (case side1 => exact Y_ HR0.out); (case side2 => exact HC0.out); rintro e w' ⟨rfl, ⟨nd, rfl⟩⟩; refine ⟨_, rfl, ?_⟩))
    go_ret
    exact ⟨E_, B_⟩

/-! ### keystoneref3_Text: function 44 -/
def keystoneref3_Text.f (k : Nat) (l0 : List (S50)) (a1 : Int) : Option (ByteArray × Int) := (keystoneref3_held.f k l0 a1 1).bind fun t518 => (if t518 = 0 then (if 0 ≤ a1 then (if a1 < (l0.length : Int) then (some ((rd_T50 l0 a1).f1, 0)) else (none)) else (none)) else (some ((⟨#[]⟩ : ByteArray), t518)))
theorem keystoneref3_Text.mono : ∀ a0 a1 k, LeO (keystoneref3_Text.f k a0 a1) (keystoneref3_Text.f (k + 1) a0 a1) := by
  intro a0 a1 k
  unfold keystoneref3_Text.f
  repeat' first
      | (with_reducible exact keystoneref3_held.mono _ _ _ _)
      | (with_reducible exact LeO.refl _)
      | (with_reducible exact LeO.none _)
      | (with_reducible refine LeO.ite ?_ ?_)
      | (with_reducible refine LeO.bind ?_ (fun _ => ?_))
      | exact keystoneref3_held.mono _ _ _ _
      | exact LeO.none _
      | refine LeO.ite ?_ ?_
      | refine LeO.bind ?_ (fun _ => ?_)
set_option maxHeartbeats 8000000 in
set_option maxRecDepth 100000 in
theorem keystoneref3_Text.calls (k : Nat) (A0 : Option Addr) (c0 : Nat) (l0 : List (S50)) (a1 : Int) (r1 : ByteArray) (r2 : Int) (w : World) (hr0 : Kd.C k50 w A0 l0.length l0) (hc0 : l0.length ≤ c0) (h : keystoneref3_Text.f k l0 a1 = some (r1, r2)) :
    Calls Tryd.prog 44 #[.slice A0 l0.length c0, .int .i64 a1] w fun e w' => e = .returned (.tuple #[.string r1, .int .i64 r2]) ∧ Below w.heap.size w w' := by
  have HR0 := Aside0.mk hr0
  have HC0 := Aside0.mk hc0
  clear hr0 hc0
  have HB := Aside0.mk (Below.refl w.heap.size w)
  have H : ((keystoneref3_held.f k l0 a1 1).bind fun t518 => (if t518 = 0 then (if 0 ≤ a1 then (if a1 < (l0.length : Int) then (some ((rd_T50 l0 a1).f1, 0)) else (none)) else (none)) else (some ((⟨#[]⟩ : ByteArray), t518)))) = some (r1, r2) := h
  clear h
  replace H := Option.bind_eq_some_iff.mp H
  obtain ⟨t518, A30, H⟩ := H
  replace H : (if t518 = 0 then (if 0 ≤ a1 then (if a1 < (l0.length : Int) then (some ((rd_T50 l0 a1).f1, 0)) else (none)) else (none)) else (some ((⟨#[]⟩ : ByteArray), t518))) = some (r1, r2) := H
  have A3 := Aside0.mk A30
  clear A30
  by_cases c4 : t518 = 0
  · rw [if_pos c4] at H
    have c4b0 : (t518 == 0) = true := beq_iff_eq.mpr c4
    have c4b1 : (t518 != 0) = false := bne_eq_false_iff_eq.mpr c4
    clear c4
    by_cases c5 : 0 ≤ a1
    · rw [if_pos c5] at H
      have c5b0 : decide (0 ≤ a1) = true := decide_eq_true c5
      clear c5
      by_cases c6 : a1 < (l0.length : Int)
      · rw [if_pos c6] at H
        have c6b0 : decide (a1 < (l0.length : Int)) = true := decide_eq_true c6
        clear c6
        simp only [Option.some.injEq, Prod.mk.injEq] at H
        obtain ⟨rfl, rfl⟩ := H
        go_enter Tryd.func44, Tryd.ntmps44
        go_wp2_with (first | ((with_reducible refine gt_ 83 ?_); refine gc_ 9 Tryd.func83 #[.slice A0 l0.length c0, .int .i64 a1, .int .i64 1] ?_; (with_reducible refine (keystoneref3_held.calls k _ _ l0 a1 1 t518 _ ?side1 ?side2 A3.out).mono ?_); (case side1 => exact Y_ HR0.out); (case side2 => exact HC0.out); rintro e w7 ⟨rfl, hb⟩; refine ⟨_, rfl, ?_⟩; have n0_ := Aside0.mk (below_step B_ hb); clear HB; have HB := n0_; clear n0_; (try clear hb); (try clear hb2); (try clear hk); (try clear hi); have p519 : 0 ≤ (a1 : Int) := of_decide_eq_true A_; have q519 : a1 < (l0.length : Int) := of_decide_eq_true A_; obtain ⟨ad519, e519, hx519_0, hx519_1, hx519_2, hx519_3, hx519_4, hx519_5⟩ := at_T50 HR0.out a1 p519 q519; cases e519; replace hx519_0 := h_ HB hx519_0; replace hx519_1 := h_ HB hx519_1; replace hx519_2 := h_ HB hx519_2; replace hx519_3 := h_ HB hx519_3; replace hx519_4 := h_ HB hx519_4; replace hx519_5 := h_ HB hx519_5; replace p519 := eq_true p519; replace q519 := eq_true q519))
        go_ret2
        exact ⟨E_, B_⟩
      · rw [if_neg c6] at H
        exact absurd H (by simp)
    · rw [if_neg c5] at H
      exact absurd H (by simp)
  · rw [if_neg c4] at H
    have c4b0 : (t518 == 0) = false := beq_eq_false_iff_ne.mpr c4
    have c4b1 : (t518 != 0) = true := bne_iff_ne.mpr c4
    simp only [Option.some.injEq, Prod.mk.injEq] at H
    obtain ⟨rfl, rfl⟩ := H
    go_enter Tryd.func44, Tryd.ntmps44
    go_wp2_with (first | ((with_reducible refine gt_ 83 ?_); refine gc_ 9 Tryd.func83 #[.slice A0 l0.length c0, .int .i64 a1, .int .i64 1] ?_; (with_reducible refine (keystoneref3_held.calls k _ _ l0 a1 1 t518 _ ?side1 ?side2 A3.out).mono ?_); (case side1 => exact Y_ HR0.out); (case side2 => exact HC0.out); rintro e w8 ⟨rfl, hb⟩; refine ⟨_, rfl, ?_⟩; have n0_ := Aside0.mk (below_step B_ hb); clear HB; have HB := n0_; clear n0_; (try clear hb); (try clear hb2); (try clear hk); (try clear hi)))
    go_ret2
    exact ⟨E_, B_⟩

/-! ### keystoneref3_Number: function 45 -/
def keystoneref3_Number.f (k : Nat) (l0 : List (S50)) (a1 : Int) : Option (Int × Int) := (keystoneref3_held.f k l0 a1 2).bind fun t520 => (if t520 = 0 then (if 0 ≤ a1 then (if a1 < (l0.length : Int) then (some ((rd_T50 l0 a1).f2, 0)) else (none)) else (none)) else (some (0, t520)))
theorem keystoneref3_Number.mono : ∀ a0 a1 k, LeO (keystoneref3_Number.f k a0 a1) (keystoneref3_Number.f (k + 1) a0 a1) := by
  intro a0 a1 k
  unfold keystoneref3_Number.f
  repeat' first
      | (with_reducible exact keystoneref3_held.mono _ _ _ _)
      | (with_reducible exact LeO.refl _)
      | (with_reducible exact LeO.none _)
      | (with_reducible refine LeO.ite ?_ ?_)
      | (with_reducible refine LeO.bind ?_ (fun _ => ?_))
      | exact keystoneref3_held.mono _ _ _ _
      | exact LeO.none _
      | refine LeO.ite ?_ ?_
      | refine LeO.bind ?_ (fun _ => ?_)
set_option maxHeartbeats 8000000 in
set_option maxRecDepth 100000 in
theorem keystoneref3_Number.calls (k : Nat) (A0 : Option Addr) (c0 : Nat) (l0 : List (S50)) (a1 : Int) (r1 : Int) (r2 : Int) (w : World) (hr0 : Kd.C k50 w A0 l0.length l0) (hc0 : l0.length ≤ c0) (h : keystoneref3_Number.f k l0 a1 = some (r1, r2)) :
    Calls Tryd.prog 45 #[.slice A0 l0.length c0, .int .i64 a1] w fun e w' => e = .returned (.tuple #[.int .i64 r1, .int .i64 r2]) ∧ Below w.heap.size w w' := by
  have HR0 := Aside0.mk hr0
  have HC0 := Aside0.mk hc0
  clear hr0 hc0
  have HB := Aside0.mk (Below.refl w.heap.size w)
  have H : ((keystoneref3_held.f k l0 a1 2).bind fun t520 => (if t520 = 0 then (if 0 ≤ a1 then (if a1 < (l0.length : Int) then (some ((rd_T50 l0 a1).f2, 0)) else (none)) else (none)) else (some (0, t520)))) = some (r1, r2) := h
  clear h
  replace H := Option.bind_eq_some_iff.mp H
  obtain ⟨t520, A30, H⟩ := H
  replace H : (if t520 = 0 then (if 0 ≤ a1 then (if a1 < (l0.length : Int) then (some ((rd_T50 l0 a1).f2, 0)) else (none)) else (none)) else (some (0, t520))) = some (r1, r2) := H
  have A3 := Aside0.mk A30
  clear A30
  by_cases c4 : t520 = 0
  · rw [if_pos c4] at H
    have c4b0 : (t520 == 0) = true := beq_iff_eq.mpr c4
    have c4b1 : (t520 != 0) = false := bne_eq_false_iff_eq.mpr c4
    clear c4
    by_cases c5 : 0 ≤ a1
    · rw [if_pos c5] at H
      have c5b0 : decide (0 ≤ a1) = true := decide_eq_true c5
      clear c5
      by_cases c6 : a1 < (l0.length : Int)
      · rw [if_pos c6] at H
        have c6b0 : decide (a1 < (l0.length : Int)) = true := decide_eq_true c6
        clear c6
        simp only [Option.some.injEq, Prod.mk.injEq] at H
        obtain ⟨rfl, rfl⟩ := H
        go_enter Tryd.func45, Tryd.ntmps45
        go_wp2_with (first | ((with_reducible refine gt_ 83 ?_); refine gc_ 9 Tryd.func83 #[.slice A0 l0.length c0, .int .i64 a1, .int .i64 2] ?_; (with_reducible refine (keystoneref3_held.calls k _ _ l0 a1 2 t520 _ ?side1 ?side2 A3.out).mono ?_); (case side1 => exact Y_ HR0.out); (case side2 => exact HC0.out); rintro e w7 ⟨rfl, hb⟩; refine ⟨_, rfl, ?_⟩; have n0_ := Aside0.mk (below_step B_ hb); clear HB; have HB := n0_; clear n0_; (try clear hb); (try clear hb2); (try clear hk); (try clear hi); have p521 : 0 ≤ (a1 : Int) := of_decide_eq_true A_; have q521 : a1 < (l0.length : Int) := of_decide_eq_true A_; obtain ⟨ad521, e521, hx521_0, hx521_1, hx521_2, hx521_3, hx521_4, hx521_5⟩ := at_T50 HR0.out a1 p521 q521; cases e521; replace hx521_0 := h_ HB hx521_0; replace hx521_1 := h_ HB hx521_1; replace hx521_2 := h_ HB hx521_2; replace hx521_3 := h_ HB hx521_3; replace hx521_4 := h_ HB hx521_4; replace hx521_5 := h_ HB hx521_5; replace p521 := eq_true p521; replace q521 := eq_true q521))
        go_ret2
        exact ⟨E_, B_⟩
      · rw [if_neg c6] at H
        exact absurd H (by simp)
    · rw [if_neg c5] at H
      exact absurd H (by simp)
  · rw [if_neg c4] at H
    have c4b0 : (t520 == 0) = false := beq_eq_false_iff_ne.mpr c4
    have c4b1 : (t520 != 0) = true := bne_iff_ne.mpr c4
    simp only [Option.some.injEq, Prod.mk.injEq] at H
    obtain ⟨rfl, rfl⟩ := H
    go_enter Tryd.func45, Tryd.ntmps45
    go_wp2_with (first | ((with_reducible refine gt_ 83 ?_); refine gc_ 9 Tryd.func83 #[.slice A0 l0.length c0, .int .i64 a1, .int .i64 2] ?_; (with_reducible refine (keystoneref3_held.calls k _ _ l0 a1 2 t520 _ ?side1 ?side2 A3.out).mono ?_); (case side1 => exact Y_ HR0.out); (case side2 => exact HC0.out); rintro e w8 ⟨rfl, hb⟩; refine ⟨_, rfl, ?_⟩; have n0_ := Aside0.mk (below_step B_ hb); clear HB; have HB := n0_; clear n0_; (try clear hb); (try clear hb2); (try clear hk); (try clear hi)))
    go_ret2
    exact ⟨E_, B_⟩

/-! ### keystoneref3_Class: function 46 -/
def keystoneref3_Class.f (k : Nat) (l0 : List (S50)) (a1 : Int) : Option (ByteArray × Int) := (keystoneref3_held.f k l0 a1 3).bind fun t522 => (if t522 = 0 then (if 0 ≤ a1 then (if a1 < (l0.length : Int) then (if 0 ≤ ((rd_T50 l0 a1).f3) then (if ((rd_T50 l0 a1).f3) < (l0.length : Int) then (some ((rd_T50 l0 ((rd_T50 l0 a1).f3)).f1, 0)) else (none)) else (none)) else (none)) else (none)) else (some ((⟨#[]⟩ : ByteArray), t522)))
theorem keystoneref3_Class.mono : ∀ a0 a1 k, LeO (keystoneref3_Class.f k a0 a1) (keystoneref3_Class.f (k + 1) a0 a1) := by
  intro a0 a1 k
  unfold keystoneref3_Class.f
  repeat' first
      | (with_reducible exact keystoneref3_held.mono _ _ _ _)
      | (with_reducible exact LeO.refl _)
      | (with_reducible exact LeO.none _)
      | (with_reducible refine LeO.ite ?_ ?_)
      | (with_reducible refine LeO.bind ?_ (fun _ => ?_))
      | exact keystoneref3_held.mono _ _ _ _
      | exact LeO.none _
      | refine LeO.ite ?_ ?_
      | refine LeO.bind ?_ (fun _ => ?_)
set_option maxHeartbeats 8000000 in
set_option maxRecDepth 100000 in
theorem keystoneref3_Class.calls (k : Nat) (A0 : Option Addr) (c0 : Nat) (l0 : List (S50)) (a1 : Int) (r1 : ByteArray) (r2 : Int) (w : World) (hr0 : Kd.C k50 w A0 l0.length l0) (hc0 : l0.length ≤ c0) (h : keystoneref3_Class.f k l0 a1 = some (r1, r2)) :
    Calls Tryd.prog 46 #[.slice A0 l0.length c0, .int .i64 a1] w fun e w' => e = .returned (.tuple #[.string r1, .int .i64 r2]) ∧ Below w.heap.size w w' := by
  have HR0 := Aside0.mk hr0
  have HC0 := Aside0.mk hc0
  clear hr0 hc0
  have HB := Aside0.mk (Below.refl w.heap.size w)
  have H : ((keystoneref3_held.f k l0 a1 3).bind fun t522 => (if t522 = 0 then (if 0 ≤ a1 then (if a1 < (l0.length : Int) then (if 0 ≤ ((rd_T50 l0 a1).f3) then (if ((rd_T50 l0 a1).f3) < (l0.length : Int) then (some ((rd_T50 l0 ((rd_T50 l0 a1).f3)).f1, 0)) else (none)) else (none)) else (none)) else (none)) else (some ((⟨#[]⟩ : ByteArray), t522)))) = some (r1, r2) := h
  clear h
  replace H := Option.bind_eq_some_iff.mp H
  obtain ⟨t522, A30, H⟩ := H
  replace H : (if t522 = 0 then (if 0 ≤ a1 then (if a1 < (l0.length : Int) then (if 0 ≤ ((rd_T50 l0 a1).f3) then (if ((rd_T50 l0 a1).f3) < (l0.length : Int) then (some ((rd_T50 l0 ((rd_T50 l0 a1).f3)).f1, 0)) else (none)) else (none)) else (none)) else (none)) else (some ((⟨#[]⟩ : ByteArray), t522))) = some (r1, r2) := H
  have A3 := Aside0.mk A30
  clear A30
  by_cases c4 : t522 = 0
  · rw [if_pos c4] at H
    have c4b0 : (t522 == 0) = true := beq_iff_eq.mpr c4
    have c4b1 : (t522 != 0) = false := bne_eq_false_iff_eq.mpr c4
    clear c4
    by_cases c5 : 0 ≤ a1
    · rw [if_pos c5] at H
      have c5b0 : decide (0 ≤ a1) = true := decide_eq_true c5
      clear c5
      by_cases c6 : a1 < (l0.length : Int)
      · rw [if_pos c6] at H
        have c6b0 : decide (a1 < (l0.length : Int)) = true := decide_eq_true c6
        clear c6
        by_cases c7 : 0 ≤ ((rd_T50 l0 a1).f3)
        · rw [if_pos c7] at H
          have c7b0 : decide (0 ≤ ((rd_T50 l0 a1).f3)) = true := decide_eq_true c7
          clear c7
          by_cases c8 : ((rd_T50 l0 a1).f3) < (l0.length : Int)
          · rw [if_pos c8] at H
            have c8b0 : decide (((rd_T50 l0 a1).f3) < (l0.length : Int)) = true := decide_eq_true c8
            clear c8
            simp only [Option.some.injEq, Prod.mk.injEq] at H
            obtain ⟨rfl, rfl⟩ := H
            go_enter Tryd.func46, Tryd.ntmps46
            go_wp2_with (first | ((with_reducible refine gt_ 83 ?_); refine gc_ 9 Tryd.func83 #[.slice A0 l0.length c0, .int .i64 a1, .int .i64 3] ?_; (with_reducible refine (keystoneref3_held.calls k _ _ l0 a1 3 t522 _ ?side1 ?side2 A3.out).mono ?_); (case side1 => exact Y_ HR0.out); (case side2 => exact HC0.out); rintro e w9 ⟨rfl, hb⟩; refine ⟨_, rfl, ?_⟩; have n0_ := Aside0.mk (below_step B_ hb); clear HB; have HB := n0_; clear n0_; (try clear hb); (try clear hb2); (try clear hk); (try clear hi); have p523 : 0 ≤ (a1 : Int) := of_decide_eq_true A_; have q523 : a1 < (l0.length : Int) := of_decide_eq_true A_; obtain ⟨ad523, e523, hx523_0, hx523_1, hx523_2, hx523_3, hx523_4, hx523_5⟩ := at_T50 HR0.out a1 p523 q523; cases e523; replace hx523_0 := h_ HB hx523_0; replace hx523_1 := h_ HB hx523_1; replace hx523_2 := h_ HB hx523_2; replace hx523_3 := h_ HB hx523_3; replace hx523_4 := h_ HB hx523_4; replace hx523_5 := h_ HB hx523_5; replace p523 := eq_true p523; replace q523 := eq_true q523; have p524 : 0 ≤ (((rd_T50 l0 a1).f3) : Int) := of_decide_eq_true A_; have q524 : ((rd_T50 l0 a1).f3) < (l0.length : Int) := of_decide_eq_true A_; obtain ⟨ad524, e524, hx524_0, hx524_1, hx524_2, hx524_3, hx524_4, hx524_5⟩ := at_T50 HR0.out ((rd_T50 l0 a1).f3) p524 q524; obtain rfl : ad523 = ad524 := (by injection e524); replace hx524_0 := h_ HB hx524_0; replace hx524_1 := h_ HB hx524_1; replace hx524_2 := h_ HB hx524_2; replace hx524_3 := h_ HB hx524_3; replace hx524_4 := h_ HB hx524_4; replace hx524_5 := h_ HB hx524_5; replace p524 := eq_true p524; replace q524 := eq_true q524))
            go_ret2
            exact ⟨E_, B_⟩
          · rw [if_neg c8] at H
            exact absurd H (by simp)
        · rw [if_neg c7] at H
          exact absurd H (by simp)
      · rw [if_neg c6] at H
        exact absurd H (by simp)
    · rw [if_neg c5] at H
      exact absurd H (by simp)
  · rw [if_neg c4] at H
    have c4b0 : (t522 == 0) = false := beq_eq_false_iff_ne.mpr c4
    have c4b1 : (t522 != 0) = true := bne_iff_ne.mpr c4
    simp only [Option.some.injEq, Prod.mk.injEq] at H
    obtain ⟨rfl, rfl⟩ := H
    go_enter Tryd.func46, Tryd.ntmps46
    go_wp2_with (first | ((with_reducible refine gt_ 83 ?_); refine gc_ 9 Tryd.func83 #[.slice A0 l0.length c0, .int .i64 a1, .int .i64 3] ?_; (with_reducible refine (keystoneref3_held.calls k _ _ l0 a1 3 t522 _ ?side1 ?side2 A3.out).mono ?_); (case side1 => exact Y_ HR0.out); (case side2 => exact HC0.out); rintro e w10 ⟨rfl, hb⟩; refine ⟨_, rfl, ?_⟩; have n0_ := Aside0.mk (below_step B_ hb); clear HB; have HB := n0_; clear n0_; (try clear hb); (try clear hb2); (try clear hk); (try clear hi)))
    go_ret2
    exact ⟨E_, B_⟩

/-! ### keystoneref3_Type: function 47 -/
def keystoneref3_Type.f (k : Nat) (l0 : List (S50)) (a1 : Int) : Option (Int × ByteArray × Int) := (keystoneref3_held.f k l0 a1 4).bind fun t526 => (if t526 = 0 then (if 0 ≤ a1 then (if a1 < (l0.length : Int) then (if 0 ≤ ((rd_T50 l0 a1).f3) then (if ((rd_T50 l0 a1).f3) < (l0.length : Int) then ((keystoneref2_Type.f k ((rd_T50 l0 ((rd_T50 l0 a1).f3)).f1)).bind fun bt529 => (some (bt529.1, bt529.2.1, bt529.2.2))) else (none)) else (none)) else (none)) else (none)) else (some (0, (⟨#[]⟩ : ByteArray), t526)))
theorem keystoneref3_Type.mono : ∀ a0 a1 k, LeO (keystoneref3_Type.f k a0 a1) (keystoneref3_Type.f (k + 1) a0 a1) := by
  intro a0 a1 k
  unfold keystoneref3_Type.f
  repeat' first
      | (with_reducible exact keystoneref2_Type.mono _ _)
      | (with_reducible exact keystoneref3_held.mono _ _ _ _)
      | (with_reducible exact LeO.refl _)
      | (with_reducible exact LeO.none _)
      | (with_reducible refine LeO.ite ?_ ?_)
      | (with_reducible refine LeO.bind ?_ (fun _ => ?_))
      | exact keystoneref2_Type.mono _ _
      | exact keystoneref3_held.mono _ _ _ _
      | exact LeO.none _
      | refine LeO.ite ?_ ?_
      | refine LeO.bind ?_ (fun _ => ?_)
set_option maxHeartbeats 8000000 in
set_option maxRecDepth 100000 in
theorem keystoneref3_Type.calls (k : Nat) (A0 : Option Addr) (c0 : Nat) (l0 : List (S50)) (a1 : Int) (r1 : Int) (r2 : ByteArray) (r3 : Int) (w : World) (hr0 : Kd.C k50 w A0 l0.length l0) (hc0 : l0.length ≤ c0) (h : keystoneref3_Type.f k l0 a1 = some (r1, r2, r3)) :
    Calls Tryd.prog 47 #[.slice A0 l0.length c0, .int .i64 a1] w fun e w' => e = .returned (.tuple #[.agg #[.int .i64 r1, .string r2], .int .i64 r3]) ∧ Below w.heap.size w w' := by
  have hu34 := Tryd.underlying34
  have HR0 := Aside0.mk hr0
  have HC0 := Aside0.mk hc0
  clear hr0 hc0
  have HB := Aside0.mk (Below.refl w.heap.size w)
  have H : ((keystoneref3_held.f k l0 a1 4).bind fun t526 => (if t526 = 0 then (if 0 ≤ a1 then (if a1 < (l0.length : Int) then (if 0 ≤ ((rd_T50 l0 a1).f3) then (if ((rd_T50 l0 a1).f3) < (l0.length : Int) then ((keystoneref2_Type.f k ((rd_T50 l0 ((rd_T50 l0 a1).f3)).f1)).bind fun bt529 => (some (bt529.1, bt529.2.1, bt529.2.2))) else (none)) else (none)) else (none)) else (none)) else (some (0, (⟨#[]⟩ : ByteArray), t526)))) = some (r1, r2, r3) := h
  clear h
  replace H := Option.bind_eq_some_iff.mp H
  obtain ⟨t526, A30, H⟩ := H
  replace H : (if t526 = 0 then (if 0 ≤ a1 then (if a1 < (l0.length : Int) then (if 0 ≤ ((rd_T50 l0 a1).f3) then (if ((rd_T50 l0 a1).f3) < (l0.length : Int) then ((keystoneref2_Type.f k ((rd_T50 l0 ((rd_T50 l0 a1).f3)).f1)).bind fun bt529 => (some (bt529.1, bt529.2.1, bt529.2.2))) else (none)) else (none)) else (none)) else (none)) else (some (0, (⟨#[]⟩ : ByteArray), t526))) = some (r1, r2, r3) := H
  have A3 := Aside0.mk A30
  clear A30
  by_cases c4 : t526 = 0
  · rw [if_pos c4] at H
    have c4b0 : (t526 == 0) = true := beq_iff_eq.mpr c4
    have c4b1 : (t526 != 0) = false := bne_eq_false_iff_eq.mpr c4
    clear c4
    by_cases c5 : 0 ≤ a1
    · rw [if_pos c5] at H
      have c5b0 : decide (0 ≤ a1) = true := decide_eq_true c5
      clear c5
      by_cases c6 : a1 < (l0.length : Int)
      · rw [if_pos c6] at H
        have c6b0 : decide (a1 < (l0.length : Int)) = true := decide_eq_true c6
        clear c6
        by_cases c7 : 0 ≤ ((rd_T50 l0 a1).f3)
        · rw [if_pos c7] at H
          have c7b0 : decide (0 ≤ ((rd_T50 l0 a1).f3)) = true := decide_eq_true c7
          clear c7
          by_cases c8 : ((rd_T50 l0 a1).f3) < (l0.length : Int)
          · rw [if_pos c8] at H
            have c8b0 : decide (((rd_T50 l0 a1).f3) < (l0.length : Int)) = true := decide_eq_true c8
            clear c8
            replace H := Option.bind_eq_some_iff.mp H
            obtain ⟨⟨t529, t530, t531⟩, A90, H⟩ := H
            replace H : (some (t529, t530, t531)) = some (r1, r2, r3) := H
            have A9 := Aside0.mk A90
            clear A90
            simp only [Option.some.injEq, Prod.mk.injEq] at H
            obtain ⟨rfl, rfl, rfl⟩ := H
            go_enter Tryd.func47, Tryd.ntmps47
            go_wp2_with (first | ((with_reducible refine d_ 4 ?_); refine X_ 4 #[.int .i64 0, .string (⟨#[]⟩ : ByteArray)] 34 ?_; intro gb525 hg w10 hbox hb; have n0_ := Aside0.mk (below_step B_ hb); have n1_ := Aside0.mk (hbox); have n2_ := Aside0.mk (s_ hg); have n3_ := Aside0.mk (s_ hg); clear HB; have HB := n0_; have BK525 := n1_; have GW525 := n2_; have GE525 := n3_; clear n0_ n1_ n2_ n3_; clear hb hbox hg) | ((with_reducible refine gt_ 83 ?_); refine gc_ 9 Tryd.func83 #[.slice A0 l0.length c0, .int .i64 a1, .int .i64 4] ?_; (with_reducible refine (keystoneref3_held.calls k _ _ l0 a1 4 t526 _ ?side1 ?side2 A3.out).mono ?_); (case side1 => exact Y_ (Kd.C_below HR0.out HB.out)); (case side2 => exact HC0.out); rintro e w11 ⟨rfl, hb⟩; refine ⟨_, rfl, ?_⟩; have n0_ := Aside0.mk (blk_below (g := gb525) (o := .cells #[.int .i64 0, .string (⟨#[]⟩ : ByteArray)] 34 (0, 0)) M_ hb); have n1_ := Aside0.mk (below_step B_ hb); clear BK525; clear HB; have BK525 := n0_; have HB := n1_; clear n0_ n1_; (try clear hb); (try clear hb2); (try clear hk); (try clear hi); have p527 : 0 ≤ (a1 : Int) := of_decide_eq_true A_; have q527 : a1 < (l0.length : Int) := of_decide_eq_true A_; obtain ⟨ad527, e527, hx527_0, hx527_1, hx527_2, hx527_3, hx527_4, hx527_5⟩ := at_T50 HR0.out a1 p527 q527; cases e527; replace hx527_0 := h_ HB hx527_0; replace hx527_1 := h_ HB hx527_1; replace hx527_2 := h_ HB hx527_2; replace hx527_3 := h_ HB hx527_3; replace hx527_4 := h_ HB hx527_4; replace hx527_5 := h_ HB hx527_5; replace p527 := eq_true p527; replace q527 := eq_true q527; have p528 : 0 ≤ (((rd_T50 l0 a1).f3) : Int) := of_decide_eq_true A_; have q528 : ((rd_T50 l0 a1).f3) < (l0.length : Int) := of_decide_eq_true A_; obtain ⟨ad528, e528, hx528_0, hx528_1, hx528_2, hx528_3, hx528_4, hx528_5⟩ := at_T50 HR0.out ((rd_T50 l0 a1).f3) p528 q528; obtain rfl : ad527 = ad528 := (by injection e528); replace hx528_0 := h_ HB hx528_0; replace hx528_1 := h_ HB hx528_1; replace hx528_2 := h_ HB hx528_2; replace hx528_3 := h_ HB hx528_3; replace hx528_4 := h_ HB hx528_4; replace hx528_5 := h_ HB hx528_5; replace p528 := eq_true p528; replace q528 := eq_true q528) | ((with_reducible refine gt_ 84 ?_); refine gc_ 23 Tryd.func84 #[.string ((rd_T50 l0 ((rd_T50 l0 a1).f3)).f1)] ?_; (with_reducible refine (keystoneref2_Type.calls k ((rd_T50 l0 ((rd_T50 l0 a1).f3)).f1) t529 t530 t531 _ A9.out).mono ?_); rintro e w12 ⟨rfl, hb⟩; refine ⟨_, rfl, ?_⟩; have n0_ := Aside0.mk (blk_below (g := gb525) (o := .cells #[.int .i64 0, .string (⟨#[]⟩ : ByteArray)] 34 (0, 0)) M_ hb); have n1_ := Aside0.mk (below_step B_ hb); clear BK525; clear HB; have BK525 := n0_; have HB := n1_; clear n0_ n1_; (try clear hb); (try clear hb2); (try clear hk); (try clear hi); obtain ⟨hcz13_0, hcz13_1, hfz13_0, hfz13_1⟩ := c2_ BK525.out))
            refine bodyPost_ret (results_ct rfl _ _ gb525 34 #[.int .i64 t529, .string t530] (0, 0) _ rfl P_ Tryd.underlying34 rfl (by kernel_rfl)) rfl ?_
            exact ⟨E_, B_⟩
          · rw [if_neg c8] at H
            exact absurd H (by simp)
        · rw [if_neg c7] at H
          exact absurd H (by simp)
      · rw [if_neg c6] at H
        exact absurd H (by simp)
    · rw [if_neg c5] at H
      exact absurd H (by simp)
  · rw [if_neg c4] at H
    have c4b0 : (t526 == 0) = false := beq_eq_false_iff_ne.mpr c4
    have c4b1 : (t526 != 0) = true := bne_iff_ne.mpr c4
    simp only [Option.some.injEq, Prod.mk.injEq] at H
    obtain ⟨rfl, rfl, rfl⟩ := H
    go_enter Tryd.func47, Tryd.ntmps47
    go_wp2_with (first | ((with_reducible refine d_ 4 ?_); refine X_ 4 #[.int .i64 0, .string (⟨#[]⟩ : ByteArray)] 34 ?_; intro gb525 hg w14 hbox hb; have n0_ := Aside0.mk (below_step B_ hb); have n1_ := Aside0.mk (hbox); have n2_ := Aside0.mk (s_ hg); have n3_ := Aside0.mk (s_ hg); clear HB; have HB := n0_; have BK525 := n1_; have GW525 := n2_; have GE525 := n3_; clear n0_ n1_ n2_ n3_; clear hb hbox hg) | ((with_reducible refine gt_ 83 ?_); refine gc_ 9 Tryd.func83 #[.slice A0 l0.length c0, .int .i64 a1, .int .i64 4] ?_; (with_reducible refine (keystoneref3_held.calls k _ _ l0 a1 4 t526 _ ?side1 ?side2 A3.out).mono ?_); (case side1 => exact Y_ (Kd.C_below HR0.out HB.out)); (case side2 => exact HC0.out); rintro e w15 ⟨rfl, hb⟩; refine ⟨_, rfl, ?_⟩; have n0_ := Aside0.mk (blk_below (g := gb525) (o := .cells #[.int .i64 0, .string (⟨#[]⟩ : ByteArray)] 34 (0, 0)) M_ hb); have n1_ := Aside0.mk (below_step B_ hb); clear BK525; clear HB; have BK525 := n0_; have HB := n1_; clear n0_ n1_; (try clear hb); (try clear hb2); (try clear hk); (try clear hi); obtain ⟨hcz16_0, hcz16_1, hfz16_0, hfz16_1⟩ := c2_ BK525.out))
    refine bodyPost_ret (results_ct rfl _ _ gb525 34 #[.int .i64 0, .string (⟨#[]⟩ : ByteArray)] (0, 0) _ rfl P_ Tryd.underlying34 rfl (by kernel_rfl)) rfl ?_
    exact ⟨E_, B_⟩

/-! ### keystoneref3_Field: function 48 -/
def keystoneref3_Field.f (k : Nat) (l0 : List (S50)) (a1 : Int) : Option (ByteArray × ByteArray × Int × ByteArray × Int) := (keystoneref3_held.f k l0 a1 5).bind fun t533 => (if t533 = 0 then (if 0 ≤ a1 then (if a1 < (l0.length : Int) then (if 0 ≤ ((rd_T50 l0 a1).f5) then (if ((rd_T50 l0 a1).f5) < (l0.length : Int) then ((keystoneref2_Type.f k ((rd_T50 l0 ((rd_T50 l0 a1).f5)).f1)).bind fun bt536 => (if 0 ≤ ((rd_T50 l0 a1).f3) then (if ((rd_T50 l0 a1).f3) < (l0.length : Int) then (if 0 ≤ ((rd_T50 l0 ((rd_T50 l0 a1).f3)).f3) then (if ((rd_T50 l0 ((rd_T50 l0 a1).f3)).f3) < (l0.length : Int) then (if 0 ≤ ((rd_T50 l0 a1).f4) then (if ((rd_T50 l0 a1).f4) < (l0.length : Int) then (some ((rd_T50 l0 ((rd_T50 l0 ((rd_T50 l0 a1).f3)).f3)).f1, (rd_T50 l0 ((rd_T50 l0 a1).f4)).f1, bt536.1, bt536.2.1, 0)) else (none)) else (none)) else (none)) else (none)) else (none)) else (none))) else (none)) else (none)) else (none)) else (none)) else (some ((⟨#[]⟩ : ByteArray), (⟨#[]⟩ : ByteArray), 0, (⟨#[]⟩ : ByteArray), t533)))
theorem keystoneref3_Field.mono : ∀ a0 a1 k, LeO (keystoneref3_Field.f k a0 a1) (keystoneref3_Field.f (k + 1) a0 a1) := by
  intro a0 a1 k
  unfold keystoneref3_Field.f
  repeat' first
      | (with_reducible exact keystoneref2_Type.mono _ _)
      | (with_reducible exact keystoneref3_held.mono _ _ _ _)
      | (with_reducible exact LeO.refl _)
      | (with_reducible exact LeO.none _)
      | (with_reducible refine LeO.ite ?_ ?_)
      | (with_reducible refine LeO.bind ?_ (fun _ => ?_))
      | exact keystoneref2_Type.mono _ _
      | exact keystoneref3_held.mono _ _ _ _
      | exact LeO.none _
      | refine LeO.ite ?_ ?_
      | refine LeO.bind ?_ (fun _ => ?_)
def keystoneref3_Field.T5 : Bool × List (List Nat × List Nat) := (true, [([], []), ([], []), ([], []), ([], []), ([2, 3], [2, 3]), ([4], [4]), ([5], [5]), ([1, 6], [1, 6]), ([7], [7]), ([8], [8]), ([0, 9], [0, 9]), ([10], [10]), ([11], [11]), ([], []), ([], []), ([], []), ([14, 15], [14, 15]), ([16], [16]), ([17], [17]), ([13, 18], [13, 18]), ([19], [19]), ([20], [20]), ([], []), ([12, 0, 1, 2, 3, 4, 5, 6, 7, 8, 9, 10, 11, 12], [12]), ([21, 23, 0, 1, 2, 3, 4, 5, 6, 7, 8, 9, 10, 11, 12, 13, 14, 15, 16, 17, 18, 19, 20, 21, 23], [21]), ([22, 24, 0, 1, 2, 3, 4, 5, 6, 7, 8, 9, 10, 11, 12, 13, 14, 15, 16, 17, 18, 19, 20, 21, 22, 23, 24], [22]), ([25, 0, 1, 2, 3, 4, 5, 6, 7, 8, 9, 10, 11, 12, 13, 14, 15, 16, 17, 18, 19, 20, 21, 22, 23, 24, 25], [])])
def keystoneref3_Field.B5 : List Nat := [0, 0, 0, 0, 12, 28, 60, 126, 254, 510, 1023, 2047, 4095, 0, 0, 0, 49152, 114688, 245760, 516096, 1040384, 2088960, 0, 8191, 12582911, 33554431, 67108863]
theorem keystoneref3_Field.tab5 : rtab .any (opsOf Tryd.f48 5) = keystoneref3_Field.T5 := by kernel_rfl
theorem keystoneref3_Field.bits5 : waitsOk keystoneref3_Field.T5.2 keystoneref3_Field.B5 = true := by kernel_rfl
set_option maxHeartbeats 8000000 in
set_option maxRecDepth 100000 in
theorem keystoneref3_Field.calls (k : Nat) (A0 : Option Addr) (c0 : Nat) (l0 : List (S50)) (a1 : Int) (r1 : ByteArray) (r2 : ByteArray) (r3 : Int) (r4 : ByteArray) (r5 : Int) (w : World) (hr0 : Kd.C k50 w A0 l0.length l0) (hc0 : l0.length ≤ c0) (h : keystoneref3_Field.f k l0 a1 = some (r1, r2, r3, r4, r5)) :
    Calls Tryd.prog 48 #[.slice A0 l0.length c0, .int .i64 a1] w fun e w' => e = .returned (.tuple #[.string r1, .string r2, .agg #[.int .i64 r3, .string r4], .int .i64 r5]) ∧ Below w.heap.size w w' := by
  have hu34 := Tryd.underlying34
  have HR0 := Aside0.mk hr0
  have HC0 := Aside0.mk hc0
  clear hr0 hc0
  have HB := Aside0.mk (Below.refl w.heap.size w)
  have H : ((keystoneref3_held.f k l0 a1 5).bind fun t533 => (if t533 = 0 then (if 0 ≤ a1 then (if a1 < (l0.length : Int) then (if 0 ≤ ((rd_T50 l0 a1).f5) then (if ((rd_T50 l0 a1).f5) < (l0.length : Int) then ((keystoneref2_Type.f k ((rd_T50 l0 ((rd_T50 l0 a1).f5)).f1)).bind fun bt536 => (if 0 ≤ ((rd_T50 l0 a1).f3) then (if ((rd_T50 l0 a1).f3) < (l0.length : Int) then (if 0 ≤ ((rd_T50 l0 ((rd_T50 l0 a1).f3)).f3) then (if ((rd_T50 l0 ((rd_T50 l0 a1).f3)).f3) < (l0.length : Int) then (if 0 ≤ ((rd_T50 l0 a1).f4) then (if ((rd_T50 l0 a1).f4) < (l0.length : Int) then (some ((rd_T50 l0 ((rd_T50 l0 ((rd_T50 l0 a1).f3)).f3)).f1, (rd_T50 l0 ((rd_T50 l0 a1).f4)).f1, bt536.1, bt536.2.1, 0)) else (none)) else (none)) else (none)) else (none)) else (none)) else (none))) else (none)) else (none)) else (none)) else (none)) else (some ((⟨#[]⟩ : ByteArray), (⟨#[]⟩ : ByteArray), 0, (⟨#[]⟩ : ByteArray), t533)))) = some (r1, r2, r3, r4, r5) := h
  clear h
  replace H := Option.bind_eq_some_iff.mp H
  obtain ⟨t533, A30, H⟩ := H
  replace H : (if t533 = 0 then (if 0 ≤ a1 then (if a1 < (l0.length : Int) then (if 0 ≤ ((rd_T50 l0 a1).f5) then (if ((rd_T50 l0 a1).f5) < (l0.length : Int) then ((keystoneref2_Type.f k ((rd_T50 l0 ((rd_T50 l0 a1).f5)).f1)).bind fun bt536 => (if 0 ≤ ((rd_T50 l0 a1).f3) then (if ((rd_T50 l0 a1).f3) < (l0.length : Int) then (if 0 ≤ ((rd_T50 l0 ((rd_T50 l0 a1).f3)).f3) then (if ((rd_T50 l0 ((rd_T50 l0 a1).f3)).f3) < (l0.length : Int) then (if 0 ≤ ((rd_T50 l0 a1).f4) then (if ((rd_T50 l0 a1).f4) < (l0.length : Int) then (some ((rd_T50 l0 ((rd_T50 l0 ((rd_T50 l0 a1).f3)).f3)).f1, (rd_T50 l0 ((rd_T50 l0 a1).f4)).f1, bt536.1, bt536.2.1, 0)) else (none)) else (none)) else (none)) else (none)) else (none)) else (none))) else (none)) else (none)) else (none)) else (none)) else (some ((⟨#[]⟩ : ByteArray), (⟨#[]⟩ : ByteArray), 0, (⟨#[]⟩ : ByteArray), t533))) = some (r1, r2, r3, r4, r5) := H
  have A3 := Aside0.mk A30
  clear A30
  by_cases c4 : t533 = 0
  · rw [if_pos c4] at H
    have c4b0 : (t533 == 0) = true := beq_iff_eq.mpr c4
    have c4b1 : (t533 != 0) = false := bne_eq_false_iff_eq.mpr c4
    clear c4
    by_cases c5 : 0 ≤ a1
    · rw [if_pos c5] at H
      have c5b0 : decide (0 ≤ a1) = true := decide_eq_true c5
      clear c5
      by_cases c6 : a1 < (l0.length : Int)
      · rw [if_pos c6] at H
        have c6b0 : decide (a1 < (l0.length : Int)) = true := decide_eq_true c6
        clear c6
        by_cases c7 : 0 ≤ ((rd_T50 l0 a1).f5)
        · rw [if_pos c7] at H
          have c7b0 : decide (0 ≤ ((rd_T50 l0 a1).f5)) = true := decide_eq_true c7
          clear c7
          by_cases c8 : ((rd_T50 l0 a1).f5) < (l0.length : Int)
          · rw [if_pos c8] at H
            have c8b0 : decide (((rd_T50 l0 a1).f5) < (l0.length : Int)) = true := decide_eq_true c8
            clear c8
            replace H := Option.bind_eq_some_iff.mp H
            obtain ⟨⟨t536, t537, t538⟩, A90, H⟩ := H
            replace H : (if 0 ≤ ((rd_T50 l0 a1).f3) then (if ((rd_T50 l0 a1).f3) < (l0.length : Int) then (if 0 ≤ ((rd_T50 l0 ((rd_T50 l0 a1).f3)).f3) then (if ((rd_T50 l0 ((rd_T50 l0 a1).f3)).f3) < (l0.length : Int) then (if 0 ≤ ((rd_T50 l0 a1).f4) then (if ((rd_T50 l0 a1).f4) < (l0.length : Int) then (some ((rd_T50 l0 ((rd_T50 l0 ((rd_T50 l0 a1).f3)).f3)).f1, (rd_T50 l0 ((rd_T50 l0 a1).f4)).f1, t536, t537, 0)) else (none)) else (none)) else (none)) else (none)) else (none)) else (none)) = some (r1, r2, r3, r4, r5) := H
            have A9 := Aside0.mk A90
            clear A90
            by_cases c10 : 0 ≤ ((rd_T50 l0 a1).f3)
            · rw [if_pos c10] at H
              have c10b0 : decide (0 ≤ ((rd_T50 l0 a1).f3)) = true := decide_eq_true c10
              clear c10
              by_cases c11 : ((rd_T50 l0 a1).f3) < (l0.length : Int)
              · rw [if_pos c11] at H
                have c11b0 : decide (((rd_T50 l0 a1).f3) < (l0.length : Int)) = true := decide_eq_true c11
                clear c11
                by_cases c12 : 0 ≤ ((rd_T50 l0 ((rd_T50 l0 a1).f3)).f3)
                · rw [if_pos c12] at H
                  have c12b0 : decide (0 ≤ ((rd_T50 l0 ((rd_T50 l0 a1).f3)).f3)) = true := decide_eq_true c12
                  clear c12
                  by_cases c13 : ((rd_T50 l0 ((rd_T50 l0 a1).f3)).f3) < (l0.length : Int)
                  · rw [if_pos c13] at H
                    have c13b0 : decide (((rd_T50 l0 ((rd_T50 l0 a1).f3)).f3) < (l0.length : Int)) = true := decide_eq_true c13
                    clear c13
                    by_cases c14 : 0 ≤ ((rd_T50 l0 a1).f4)
                    · rw [if_pos c14] at H
                      have c14b0 : decide (0 ≤ ((rd_T50 l0 a1).f4)) = true := decide_eq_true c14
                      clear c14
                      by_cases c15 : ((rd_T50 l0 a1).f4) < (l0.length : Int)
                      · rw [if_pos c15] at H
                        have c15b0 : decide (((rd_T50 l0 a1).f4) < (l0.length : Int)) = true := decide_eq_true c15
                        clear c15
                        simp only [Option.some.injEq, Prod.mk.injEq] at H
                        obtain ⟨rfl, rfl, rfl, rfl, rfl⟩ := H
                        go_enter Tryd.func48, Tryd.ntmps48
                        try go_wp2_with (first | ((with_reducible refine d_ 6 ?_); refine X_ 6 #[.int .i64 0, .string (⟨#[]⟩ : ByteArray)] 34 ?_; intro gb532 hg w16 hbox hb; have n0_ := Aside0.mk (below_step B_ hb); have n1_ := Aside0.mk (hbox); have n2_ := Aside0.mk (s_ hg); have n3_ := Aside0.mk (s_ hg); clear HB; have HB := n0_; have BK532 := n1_; have GW532 := n2_; have GE532 := n3_; clear n0_ n1_ n2_ n3_; clear hb hbox hg) | ((with_reducible refine gt_ 83 ?_); refine gc_ 13 Tryd.func83 #[.slice A0 l0.length c0, .int .i64 a1, .int .i64 5] ?_; (with_reducible refine (keystoneref3_held.calls k _ _ l0 a1 5 t533 _ ?side1 ?side2 A3.out).mono ?_); (case side1 => exact Y_ (Kd.C_below HR0.out HB.out)); (case side2 => exact HC0.out); rintro e w17 ⟨rfl, hb⟩; refine ⟨_, rfl, ?_⟩; have n0_ := Aside0.mk (blk_below (g := gb532) (o := .cells #[.int .i64 0, .string (⟨#[]⟩ : ByteArray)] 34 (0, 0)) M_ hb); have n1_ := Aside0.mk (below_step B_ hb); clear BK532; clear HB; have BK532 := n0_; have HB := n1_; clear n0_ n1_; (try clear hb); (try clear hb2); (try clear hk); (try clear hi); have p534 : 0 ≤ (a1 : Int) := of_decide_eq_true A_; have q534 : a1 < (l0.length : Int) := of_decide_eq_true A_; obtain ⟨ad534, e534, hx534_0, hx534_1, hx534_2, hx534_3, hx534_4, hx534_5⟩ := at_T50 HR0.out a1 p534 q534; cases e534; replace hx534_0 := h_ HB hx534_0; replace hx534_1 := h_ HB hx534_1; replace hx534_2 := h_ HB hx534_2; replace hx534_3 := h_ HB hx534_3; replace hx534_4 := h_ HB hx534_4; replace hx534_5 := h_ HB hx534_5; replace p534 := eq_true p534; replace q534 := eq_true q534; have p535 : 0 ≤ (((rd_T50 l0 a1).f5) : Int) := of_decide_eq_true A_; have q535 : ((rd_T50 l0 a1).f5) < (l0.length : Int) := of_decide_eq_true A_; obtain ⟨ad535, e535, hx535_0, hx535_1, hx535_2, hx535_3, hx535_4, hx535_5⟩ := at_T50 HR0.out ((rd_T50 l0 a1).f5) p535 q535; obtain rfl : ad534 = ad535 := (by injection e535); replace hx535_0 := h_ HB hx535_0; replace hx535_1 := h_ HB hx535_1; replace hx535_2 := h_ HB hx535_2; replace hx535_3 := h_ HB hx535_3; replace hx535_4 := h_ HB hx535_4; replace hx535_5 := h_ HB hx535_5; replace p535 := eq_true p535; replace q535 := eq_true q535) | ((with_reducible refine gt_ 84 ?_); refine gc_ 28 Tryd.func84 #[.string ((rd_T50 l0 ((rd_T50 l0 a1).f5)).f1)] ?_; (with_reducible refine (keystoneref2_Type.calls k ((rd_T50 l0 ((rd_T50 l0 a1).f5)).f1) t536 t537 t538 _ A9.out).mono ?_); rintro e w18 ⟨rfl, hb⟩; refine ⟨_, rfl, ?_⟩; have n0_ := Aside0.mk (blk_below (g := gb532) (o := .cells #[.int .i64 0, .string (⟨#[]⟩ : ByteArray)] 34 (0, 0)) M_ hb); have n1_ := Aside0.mk (below_step B_ hb); clear BK532; clear HB; have BK532 := n0_; have HB := n1_; clear n0_ n1_; (try clear hb); (try clear hb2); (try clear hk); (try clear hi)) | ((with_reducible refine d_ 9 ?_); refine X_ 9 #[.int .i64 0, .string (⟨#[]⟩ : ByteArray)] 34 ?_; intro gb539 hg w19 hbox hb; have n0_ := Aside0.mk (blk_below (g := gb532) (o := .cells #[.int .i64 0, .string (⟨#[]⟩ : ByteArray)] 34 (0, 0)) M_ hb); have n1_ := Aside0.mk (below_step B_ hb); have n2_ := Aside0.mk (hbox); have n3_ := Aside0.mk (s_ hg); have n4_ := Aside0.mk (s_ hg); have n5_ := Aside0.mk (x_ hg (g := gb532) (o := .cells #[.int .i64 0, .string (⟨#[]⟩ : ByteArray)] 34 (0, 0)) M_); have n6_ := Aside0.mk n5_.out.symm; clear BK532; clear HB; have BK532 := n0_; have HB := n1_; have BK539 := n2_; have GW539 := n3_; have GE539 := n4_; have NB532_539 := n5_; have NB539_532 := n6_; clear n0_ n1_ n2_ n3_ n4_ n5_ n6_; clear hb hbox hg; have hnb20 := NB539_532.out; have hnc20 := NB532_539.out; obtain ⟨hcz21_0, hcz21_1, hfz21_0, hfz21_1⟩ := c2_ BK539.out))
                        have n0_ : Aside0 (((w19.setCell ⟨gb539, 0, none⟩ (.int .i64 t536)).setCell ⟨gb539, 1, none⟩ (.string t537)).heap[gb532]? = some (.cells #[.int .i64 0, .string (⟨#[]⟩ : ByteArray)] 34 (0, 0))) := ⟨P_⟩
                        have n1_ : Aside0 (((w19.setCell ⟨gb539, 0, none⟩ (.int .i64 t536)).setCell ⟨gb539, 1, none⟩ (.string t537)).heap[gb539]? = some (.cells #[.int .i64 t536, .string t537] 34 (0, 0))) := ⟨P_⟩
                        have n2_ : Aside0 (Below w.heap.size w ((w19.setCell ⟨gb539, 0, none⟩ (.int .i64 t536)).setCell ⟨gb539, 1, none⟩ (.string t537))) := ⟨B_⟩
                        (try clear BK532)
                        (try clear BK539)
                        (try clear HB)
                        generalize ((w19.setCell ⟨gb539, 0, none⟩ (.int .i64 t536)).setCell ⟨gb539, 1, none⟩ (.string t537)) = w22 at n0_ n1_ n2_ ⊢
                        have BK532 := n0_
                        have BK539 := n1_
                        have HB := n2_
                        clear n0_ n1_ n2_
                        have n0_ := Aside0.mk (blk_drew BK532.out)
                        have n1_ := Aside0.mk (blk_drew BK539.out)
                        have n2_ := Aside0.mk (below_drew1 HB.out)
                        clear BK532
                        clear BK539
                        clear HB
                        have BK532 := n0_
                        have BK539 := n1_
                        have HB := n2_
                        clear n0_ n1_ n2_
                        have p540 : 0 ≤ (a1 : Int) := of_decide_eq_true A_
                        have q540 : a1 < (l0.length : Int) := of_decide_eq_true A_
                        obtain ⟨ad540, e540, hx540_0, hx540_1, hx540_2, hx540_3, hx540_4, hx540_5⟩ := at_T50 HR0.out a1 p540 q540
                        have hw540_5 := hx540_5
                        have hw540_4 := hx540_4
                        have hw540_3 := hx540_3
                        have hw540_2 := hx540_2
                        have hw540_1 := hx540_1
                        have hw540_0 := hx540_0
                        obtain rfl : ad534 = ad540 := (by injection e540)
                        replace hx540_0 := h_ HB hx540_0
                        replace hx540_1 := h_ HB hx540_1
                        replace hx540_2 := h_ HB hx540_2
                        replace hx540_3 := h_ HB hx540_3
                        replace hx540_4 := h_ HB hx540_4
                        replace hx540_5 := h_ HB hx540_5
                        replace p540 := eq_true p540
                        replace q540 := eq_true q540
                        have p541 : 0 ≤ (((rd_T50 l0 a1).f3) : Int) := of_decide_eq_true A_
                        have q541 : ((rd_T50 l0 a1).f3) < (l0.length : Int) := of_decide_eq_true A_
                        obtain ⟨ad541, e541, hx541_0, hx541_1, hx541_2, hx541_3, hx541_4, hx541_5⟩ := at_T50 HR0.out ((rd_T50 l0 a1).f3) p541 q541
                        have hw541_5 := hx541_5
                        have hw541_4 := hx541_4
                        have hw541_3 := hx541_3
                        have hw541_2 := hx541_2
                        have hw541_1 := hx541_1
                        have hw541_0 := hx541_0
                        obtain rfl : ad534 = ad541 := (by injection e541)
                        replace hx541_0 := h_ HB hx541_0
                        replace hx541_1 := h_ HB hx541_1
                        replace hx541_2 := h_ HB hx541_2
                        replace hx541_3 := h_ HB hx541_3
                        replace hx541_4 := h_ HB hx541_4
                        replace hx541_5 := h_ HB hx541_5
                        replace p541 := eq_true p541
                        replace q541 := eq_true q541
                        have p542 : 0 ≤ (((rd_T50 l0 ((rd_T50 l0 a1).f3)).f3) : Int) := of_decide_eq_true A_
                        have q542 : ((rd_T50 l0 ((rd_T50 l0 a1).f3)).f3) < (l0.length : Int) := of_decide_eq_true A_
                        obtain ⟨ad542, e542, hx542_0, hx542_1, hx542_2, hx542_3, hx542_4, hx542_5⟩ := at_T50 HR0.out ((rd_T50 l0 ((rd_T50 l0 a1).f3)).f3) p542 q542
                        have hw542_5 := hx542_5
                        have hw542_4 := hx542_4
                        have hw542_3 := hx542_3
                        have hw542_2 := hx542_2
                        have hw542_1 := hx542_1
                        have hw542_0 := hx542_0
                        obtain rfl : ad534 = ad542 := (by injection e542)
                        replace hx542_0 := h_ HB hx542_0
                        replace hx542_1 := h_ HB hx542_1
                        replace hx542_2 := h_ HB hx542_2
                        replace hx542_3 := h_ HB hx542_3
                        replace hx542_4 := h_ HB hx542_4
                        replace hx542_5 := h_ HB hx542_5
                        replace p542 := eq_true p542
                        replace q542 := eq_true q542
                        have p543 : 0 ≤ (a1 : Int) := of_decide_eq_true A_
                        have q543 : a1 < (l0.length : Int) := of_decide_eq_true A_
                        obtain ⟨ad543, e543, hx543_0, hx543_1, hx543_2, hx543_3, hx543_4, hx543_5⟩ := at_T50 HR0.out a1 p543 q543
                        have hw543_5 := hx543_5
                        have hw543_4 := hx543_4
                        have hw543_3 := hx543_3
                        have hw543_2 := hx543_2
                        have hw543_1 := hx543_1
                        have hw543_0 := hx543_0
                        obtain rfl : ad534 = ad543 := (by injection e543)
                        replace hx543_0 := h_ HB hx543_0
                        replace hx543_1 := h_ HB hx543_1
                        replace hx543_2 := h_ HB hx543_2
                        replace hx543_3 := h_ HB hx543_3
                        replace hx543_4 := h_ HB hx543_4
                        replace hx543_5 := h_ HB hx543_5
                        replace p543 := eq_true p543
                        replace q543 := eq_true q543
                        have p544 : 0 ≤ (((rd_T50 l0 a1).f4) : Int) := of_decide_eq_true A_
                        have q544 : ((rd_T50 l0 a1).f4) < (l0.length : Int) := of_decide_eq_true A_
                        obtain ⟨ad544, e544, hx544_0, hx544_1, hx544_2, hx544_3, hx544_4, hx544_5⟩ := at_T50 HR0.out ((rd_T50 l0 a1).f4) p544 q544
                        have hw544_5 := hx544_5
                        have hw544_4 := hx544_4
                        have hw544_3 := hx544_3
                        have hw544_2 := hx544_2
                        have hw544_1 := hx544_1
                        have hw544_0 := hx544_0
                        obtain rfl : ad534 = ad544 := (by injection e544)
                        replace hx544_0 := h_ HB hx544_0
                        replace hx544_1 := h_ HB hx544_1
                        replace hx544_2 := h_ HB hx544_2
                        replace hx544_3 := h_ HB hx544_3
                        replace hx544_4 := h_ HB hx544_4
                        replace hx544_5 := h_ HB hx544_5
                        replace p544 := eq_true p544
                        replace q544 := eq_true q544
                        refine start_ (n := 27) (S := fun w' => w'.cell? ⟨gb539, 0, none⟩ = some (.int .i64 t536) ∧ w'.cell? ⟨gb539, 1, none⟩ = some (.string t537) ∧ w'.cell? (ad534.add ((a1).toNat * 6)) = some (.int .i64 ((rd_T50 l0 a1).f0)) ∧ w'.cell? ⟨(ad534.add ((a1).toNat * 6)).block, (ad534.add ((a1).toNat * 6)).off + 1, none⟩ = some (.string ((rd_T50 l0 a1).f1)) ∧ w'.cell? ⟨(ad534.add ((a1).toNat * 6)).block, (ad534.add ((a1).toNat * 6)).off + 2, none⟩ = some (.int .i64 ((rd_T50 l0 a1).f2)) ∧ w'.cell? ⟨(ad534.add ((a1).toNat * 6)).block, (ad534.add ((a1).toNat * 6)).off + 3, none⟩ = some (.int .i64 ((rd_T50 l0 a1).f3)) ∧ w'.cell? ⟨(ad534.add ((a1).toNat * 6)).block, (ad534.add ((a1).toNat * 6)).off + 4, none⟩ = some (.int .i64 ((rd_T50 l0 a1).f4)) ∧ w'.cell? ⟨(ad534.add ((a1).toNat * 6)).block, (ad534.add ((a1).toNat * 6)).off + 5, none⟩ = some (.int .i64 ((rd_T50 l0 a1).f5)) ∧ w'.cell? (ad534.add ((((rd_T50 l0 a1).f3)).toNat * 6)) = some (.int .i64 ((rd_T50 l0 ((rd_T50 l0 a1).f3)).f0)) ∧ w'.cell? ⟨(ad534.add ((((rd_T50 l0 a1).f3)).toNat * 6)).block, (ad534.add ((((rd_T50 l0 a1).f3)).toNat * 6)).off + 1, none⟩ = some (.string ((rd_T50 l0 ((rd_T50 l0 a1).f3)).f1)) ∧ w'.cell? ⟨(ad534.add ((((rd_T50 l0 a1).f3)).toNat * 6)).block, (ad534.add ((((rd_T50 l0 a1).f3)).toNat * 6)).off + 2, none⟩ = some (.int .i64 ((rd_T50 l0 ((rd_T50 l0 a1).f3)).f2)) ∧ w'.cell? ⟨(ad534.add ((((rd_T50 l0 a1).f3)).toNat * 6)).block, (ad534.add ((((rd_T50 l0 a1).f3)).toNat * 6)).off + 3, none⟩ = some (.int .i64 ((rd_T50 l0 ((rd_T50 l0 a1).f3)).f3)) ∧ w'.cell? ⟨(ad534.add ((((rd_T50 l0 a1).f3)).toNat * 6)).block, (ad534.add ((((rd_T50 l0 a1).f3)).toNat * 6)).off + 4, none⟩ = some (.int .i64 ((rd_T50 l0 ((rd_T50 l0 a1).f3)).f4)) ∧ w'.cell? ⟨(ad534.add ((((rd_T50 l0 a1).f3)).toNat * 6)).block, (ad534.add ((((rd_T50 l0 a1).f3)).toNat * 6)).off + 5, none⟩ = some (.int .i64 ((rd_T50 l0 ((rd_T50 l0 a1).f3)).f5)) ∧ w'.cell? (ad534.add ((((rd_T50 l0 ((rd_T50 l0 a1).f3)).f3)).toNat * 6)) = some (.int .i64 ((rd_T50 l0 ((rd_T50 l0 ((rd_T50 l0 a1).f3)).f3)).f0)) ∧ w'.cell? ⟨(ad534.add ((((rd_T50 l0 ((rd_T50 l0 a1).f3)).f3)).toNat * 6)).block, (ad534.add ((((rd_T50 l0 ((rd_T50 l0 a1).f3)).f3)).toNat * 6)).off + 1, none⟩ = some (.string ((rd_T50 l0 ((rd_T50 l0 ((rd_T50 l0 a1).f3)).f3)).f1)) ∧ w'.cell? ⟨(ad534.add ((((rd_T50 l0 ((rd_T50 l0 a1).f3)).f3)).toNat * 6)).block, (ad534.add ((((rd_T50 l0 ((rd_T50 l0 a1).f3)).f3)).toNat * 6)).off + 2, none⟩ = some (.int .i64 ((rd_T50 l0 ((rd_T50 l0 ((rd_T50 l0 a1).f3)).f3)).f2)) ∧ w'.cell? ⟨(ad534.add ((((rd_T50 l0 ((rd_T50 l0 a1).f3)).f3)).toNat * 6)).block, (ad534.add ((((rd_T50 l0 ((rd_T50 l0 a1).f3)).f3)).toNat * 6)).off + 3, none⟩ = some (.int .i64 ((rd_T50 l0 ((rd_T50 l0 ((rd_T50 l0 a1).f3)).f3)).f3)) ∧ w'.cell? ⟨(ad534.add ((((rd_T50 l0 ((rd_T50 l0 a1).f3)).f3)).toNat * 6)).block, (ad534.add ((((rd_T50 l0 ((rd_T50 l0 a1).f3)).f3)).toNat * 6)).off + 4, none⟩ = some (.int .i64 ((rd_T50 l0 ((rd_T50 l0 ((rd_T50 l0 a1).f3)).f3)).f4)) ∧ w'.cell? ⟨(ad534.add ((((rd_T50 l0 ((rd_T50 l0 a1).f3)).f3)).toNat * 6)).block, (ad534.add ((((rd_T50 l0 ((rd_T50 l0 a1).f3)).f3)).toNat * 6)).off + 5, none⟩ = some (.int .i64 ((rd_T50 l0 ((rd_T50 l0 ((rd_T50 l0 a1).f3)).f3)).f5)) ∧ w'.cell? (ad534.add ((a1).toNat * 6)) = some (.int .i64 ((rd_T50 l0 a1).f0)) ∧ w'.cell? ⟨(ad534.add ((a1).toNat * 6)).block, (ad534.add ((a1).toNat * 6)).off + 1, none⟩ = some (.string ((rd_T50 l0 a1).f1)) ∧ w'.cell? ⟨(ad534.add ((a1).toNat * 6)).block, (ad534.add ((a1).toNat * 6)).off + 2, none⟩ = some (.int .i64 ((rd_T50 l0 a1).f2)) ∧ w'.cell? ⟨(ad534.add ((a1).toNat * 6)).block, (ad534.add ((a1).toNat * 6)).off + 3, none⟩ = some (.int .i64 ((rd_T50 l0 a1).f3)) ∧ w'.cell? ⟨(ad534.add ((a1).toNat * 6)).block, (ad534.add ((a1).toNat * 6)).off + 4, none⟩ = some (.int .i64 ((rd_T50 l0 a1).f4)) ∧ w'.cell? ⟨(ad534.add ((a1).toNat * 6)).block, (ad534.add ((a1).toNat * 6)).off + 5, none⟩ = some (.int .i64 ((rd_T50 l0 a1).f5)) ∧ w'.cell? (ad534.add ((((rd_T50 l0 a1).f4)).toNat * 6)) = some (.int .i64 ((rd_T50 l0 ((rd_T50 l0 a1).f4)).f0)) ∧ w'.cell? ⟨(ad534.add ((((rd_T50 l0 a1).f4)).toNat * 6)).block, (ad534.add ((((rd_T50 l0 a1).f4)).toNat * 6)).off + 1, none⟩ = some (.string ((rd_T50 l0 ((rd_T50 l0 a1).f4)).f1)) ∧ w'.cell? ⟨(ad534.add ((((rd_T50 l0 a1).f4)).toNat * 6)).block, (ad534.add ((((rd_T50 l0 a1).f4)).toNat * 6)).off + 2, none⟩ = some (.int .i64 ((rd_T50 l0 ((rd_T50 l0 a1).f4)).f2)) ∧ w'.cell? ⟨(ad534.add ((((rd_T50 l0 a1).f4)).toNat * 6)).block, (ad534.add ((((rd_T50 l0 a1).f4)).toNat * 6)).off + 3, none⟩ = some (.int .i64 ((rd_T50 l0 ((rd_T50 l0 a1).f4)).f3)) ∧ w'.cell? ⟨(ad534.add ((((rd_T50 l0 a1).f4)).toNat * 6)).block, (ad534.add ((((rd_T50 l0 a1).f4)).toNat * 6)).off + 4, none⟩ = some (.int .i64 ((rd_T50 l0 ((rd_T50 l0 a1).f4)).f4)) ∧ w'.cell? ⟨(ad534.add ((((rd_T50 l0 a1).f4)).toNat * 6)).block, (ad534.add ((((rd_T50 l0 a1).f4)).toNat * 6)).off + 5, none⟩ = some (.int .i64 ((rd_T50 l0 ((rd_T50 l0 a1).f4)).f5))) (ds := []) #[false, false, false, false, false, false, false, false, false, false, false, false, false, false, false, false, false, false, false, false, false, false, false, false, false, false, false] (by kernel_rfl) rfl rfl ⟨(blk_cell BK539.out 0).trans rfl, (blk_cell BK539.out 1).trans rfl, ((HB.out.cell (World.block_lt_of_cell? w _ hw540_0)).trans hw540_0), ((HB.out.cell (World.block_lt_of_cell? w _ hw540_1)).trans hw540_1), ((HB.out.cell (World.block_lt_of_cell? w _ hw540_2)).trans hw540_2), ((HB.out.cell (World.block_lt_of_cell? w _ hw540_3)).trans hw540_3), ((HB.out.cell (World.block_lt_of_cell? w _ hw540_4)).trans hw540_4), ((HB.out.cell (World.block_lt_of_cell? w _ hw540_5)).trans hw540_5), ((HB.out.cell (World.block_lt_of_cell? w _ hw541_0)).trans hw541_0), ((HB.out.cell (World.block_lt_of_cell? w _ hw541_1)).trans hw541_1), ((HB.out.cell (World.block_lt_of_cell? w _ hw541_2)).trans hw541_2), ((HB.out.cell (World.block_lt_of_cell? w _ hw541_3)).trans hw541_3), ((HB.out.cell (World.block_lt_of_cell? w _ hw541_4)).trans hw541_4), ((HB.out.cell (World.block_lt_of_cell? w _ hw541_5)).trans hw541_5), ((HB.out.cell (World.block_lt_of_cell? w _ hw542_0)).trans hw542_0), ((HB.out.cell (World.block_lt_of_cell? w _ hw542_1)).trans hw542_1), ((HB.out.cell (World.block_lt_of_cell? w _ hw542_2)).trans hw542_2), ((HB.out.cell (World.block_lt_of_cell? w _ hw542_3)).trans hw542_3), ((HB.out.cell (World.block_lt_of_cell? w _ hw542_4)).trans hw542_4), ((HB.out.cell (World.block_lt_of_cell? w _ hw542_5)).trans hw542_5), ((HB.out.cell (World.block_lt_of_cell? w _ hw543_0)).trans hw543_0), ((HB.out.cell (World.block_lt_of_cell? w _ hw543_1)).trans hw543_1), ((HB.out.cell (World.block_lt_of_cell? w _ hw543_2)).trans hw543_2), ((HB.out.cell (World.block_lt_of_cell? w _ hw543_3)).trans hw543_3), ((HB.out.cell (World.block_lt_of_cell? w _ hw543_4)).trans hw543_4), ((HB.out.cell (World.block_lt_of_cell? w _ hw543_5)).trans hw543_5), ((HB.out.cell (World.block_lt_of_cell? w _ hw544_0)).trans hw544_0), ((HB.out.cell (World.block_lt_of_cell? w _ hw544_1)).trans hw544_1), ((HB.out.cell (World.block_lt_of_cell? w _ hw544_2)).trans hw544_2), ((HB.out.cell (World.block_lt_of_cell? w _ hw544_3)).trans hw544_3), ((HB.out.cell (World.block_lt_of_cell? w _ hw544_4)).trans hw544_4), ((HB.out.cell (World.block_lt_of_cell? w _ hw544_5)).trans hw544_5)⟩ (fun hHeld => ?_); refine with_tabW keystoneref3_Field.tab5 keystoneref3_Field.bits5 (fun HT_ HW_ => ?_)
                        generalize w22.drew = w23 at BK532 BK539 HB hx540_0 hx540_1 hx540_2 hx540_3 hx540_4 hx540_5 hx541_0 hx541_1 hx541_2 hx541_3 hx541_4 hx541_5 hx542_0 hx542_1 hx542_2 hx542_3 hx542_4 hx542_5 hx543_0 hx543_1 hx543_2 hx543_3 hx543_4 hx543_5 hx544_0 hx544_1 hx544_2 hx544_3 hx544_4 hx544_5 hHeld ⊢
                        refine u_ 0 31 (bb 27 1) ?_
                        refine u_ 1 32 (bb 27 3) ?_
                        refine u_ 2 33 (bb 27 7) ?_
                        refine u_ 3 34 (bb 27 15) ?_
                        refine u_ 4 35 (bb 27 31) ?_
                        refine u_ 5 36 (bb 27 63) ?_
                        refine u_ 13 44 (bb 27 8255) ?_
                        refine u_ 14 45 (bb 27 24639) ?_
                        refine u_ 15 46 (bb 27 57407) ?_
                        refine u_ 16 47 (bb 27 122943) ?_
                        refine u_ 17 48 (bb 27 254015) ?_
                        refine t_ 6 37 (bb 27 254079) ?_
                        refine u_ 7 38 (bb 27 254207) ?_
                        refine u_ 8 39 (bb 27 254463) ?_
                        refine t_ 9 40 (bb 27 254975) ?_
                        refine u_ 10 41 (bb 27 255999) ?_
                        refine u_ 11 42 (bb 27 258047) ?_
                        refine t_ 12 43 (bb 27 262143) ?_
                        refine u_ 23 4 (bb 27 8650751) ?_
                        refine t_ 18 49 (bb 27 8912895) ?_
                        refine u_ 19 50 (bb 27 9437183) ?_
                        refine u_ 20 51 (bb 27 10485759) ?_
                        refine t_ 21 52 (bb 27 12582911) ?_
                        refine u_ 24 5 (bb 27 29360127) ?_
                        refine t_ 22 53 (bb 27 33554431) ?_
                        refine one_ (i := 25) (N := none) #[true, true, true, true, true, true, true, true, true, true, true, true, true, true, true, true, true, true, true, true, true, true, true, true, true, true, false] rfl rfl (one_of HT_.out (by kernel_rfl)) (by decide) (fun K hK => ?_)
                        have hs24 : w23.cell? ⟨gb532, 0, none⟩ = some (.int .i64 0) := (blk_cell BK532.out 0).trans rfl
                        have hfs24 := blk_frozen BK532.out 0
                        have hns24_1 := NB539_532.out
                        have hms24_1 := NB532_539.out
                        have hs25 : w23.cell? ⟨gb532, 1, none⟩ = some (.string (⟨#[]⟩ : ByteArray)) := (blk_cell BK532.out 1).trans rfl
                        have hfs25 := blk_frozen BK532.out 1
                        have hns25_1 := NB539_532.out
                        have hms25_1 := NB532_539.out
                        refine skip_ (w1 := ?_) (by rfl) rfl ?_ ?_
                        rotate_left
                        · go_simp
                          rfl
                        refine hK.out _ _ (S_ hHeld) (fun hHeld => ?_)
                        clear hK K
                        refine u_ 26 7 (bb 27 134217727) ?_
                        refine done_ (done_of HT_.out (by kernel_rfl)) ?_
                        try go_wp2
                        refine bodyPost_ret (results_list (rs := [.tmp 4, .tmp 5, .cell 6 34, .tmp 7]) rfl (by simp) (.tmp (.tmp (.cell gb532 34 #[.int .i64 t536, .string t537] (0, 0) _ rfl P_ Tryd.underlying34 rfl (by kernel_rfl) (.tmp .nil))))) rfl ?_
                        exact ⟨E_, B_⟩
                      · rw [if_neg c15] at H
                        exact absurd H (by simp)
                    · rw [if_neg c14] at H
                      exact absurd H (by simp)
                  · rw [if_neg c13] at H
                    exact absurd H (by simp)
                · rw [if_neg c12] at H
                  exact absurd H (by simp)
              · rw [if_neg c11] at H
                exact absurd H (by simp)
            · rw [if_neg c10] at H
              exact absurd H (by simp)
          · rw [if_neg c8] at H
            exact absurd H (by simp)
        · rw [if_neg c7] at H
          exact absurd H (by simp)
      · rw [if_neg c6] at H
        exact absurd H (by simp)
    · rw [if_neg c5] at H
      exact absurd H (by simp)
  · rw [if_neg c4] at H
    have c4b0 : (t533 == 0) = false := beq_eq_false_iff_ne.mpr c4
    have c4b1 : (t533 != 0) = true := bne_iff_ne.mpr c4
    simp only [Option.some.injEq, Prod.mk.injEq] at H
    obtain ⟨rfl, rfl, rfl, rfl, rfl⟩ := H
    go_enter Tryd.func48, Tryd.ntmps48
    go_wp2_with (first | ((with_reducible refine d_ 6 ?_); refine X_ 6 #[.int .i64 0, .string (⟨#[]⟩ : ByteArray)] 34 ?_; intro gb532 hg w26 hbox hb; have n0_ := Aside0.mk (below_step B_ hb); have n1_ := Aside0.mk (hbox); have n2_ := Aside0.mk (s_ hg); have n3_ := Aside0.mk (s_ hg); clear HB; have HB := n0_; have BK532 := n1_; have GW532 := n2_; have GE532 := n3_; clear n0_ n1_ n2_ n3_; clear hb hbox hg) | ((with_reducible refine gt_ 83 ?_); refine gc_ 13 Tryd.func83 #[.slice A0 l0.length c0, .int .i64 a1, .int .i64 5] ?_; (with_reducible refine (keystoneref3_held.calls k _ _ l0 a1 5 t533 _ ?side1 ?side2 A3.out).mono ?_); (case side1 => exact Y_ (Kd.C_below HR0.out HB.out)); (case side2 => exact HC0.out); rintro e w27 ⟨rfl, hb⟩; refine ⟨_, rfl, ?_⟩; have n0_ := Aside0.mk (blk_below (g := gb532) (o := .cells #[.int .i64 0, .string (⟨#[]⟩ : ByteArray)] 34 (0, 0)) M_ hb); have n1_ := Aside0.mk (below_step B_ hb); clear BK532; clear HB; have BK532 := n0_; have HB := n1_; clear n0_ n1_; (try clear hb); (try clear hb2); (try clear hk); (try clear hi); obtain ⟨hcz28_0, hcz28_1, hfz28_0, hfz28_1⟩ := c2_ BK532.out))
    refine bodyPost_ret (results_list (rs := [.tmp 4, .tmp 5, .cell 6 34, .tmp 7]) rfl (by simp) (.tmp (.tmp (.cell gb532 34 #[.int .i64 0, .string (⟨#[]⟩ : ByteArray)] (0, 0) _ rfl P_ Tryd.underlying34 rfl (by kernel_rfl) (.tmp .nil))))) rfl ?_
    exact ⟨E_, B_⟩

/-! ### keystoneref3_Method: function 49 -/
def keystoneref3_Method.f (k : Nat) (l0 : List (S50)) (a1 : Int) : Option (ByteArray × ByteArray × (List (S34)) × Bool × Int × ByteArray × Int) := (keystoneref3_held.f k l0 a1 6).bind fun t546 => (if t546 = 0 then (if 0 ≤ a1 then (if a1 < (l0.length : Int) then (if 0 ≤ ((rd_T50 l0 a1).f5) then (if ((rd_T50 l0 a1).f5) < (l0.length : Int) then ((keystoneref2_Sig.f k ((rd_T50 l0 ((rd_T50 l0 a1).f5)).f1)).bind fun bt549 => (if 0 ≤ ((rd_T50 l0 a1).f3) then (if ((rd_T50 l0 a1).f3) < (l0.length : Int) then (if 0 ≤ ((rd_T50 l0 ((rd_T50 l0 a1).f3)).f3) then (if ((rd_T50 l0 ((rd_T50 l0 a1).f3)).f3) < (l0.length : Int) then (if 0 ≤ ((rd_T50 l0 a1).f4) then (if ((rd_T50 l0 a1).f4) < (l0.length : Int) then (some ((rd_T50 l0 ((rd_T50 l0 ((rd_T50 l0 a1).f3)).f3)).f1, (rd_T50 l0 ((rd_T50 l0 a1).f4)).f1, bt549.1, bt549.2.1, bt549.2.2.1, bt549.2.2.2.1, 0)) else (none)) else (none)) else (none)) else (none)) else (none)) else (none))) else (none)) else (none)) else (none)) else (none)) else (some ((⟨#[]⟩ : ByteArray), (⟨#[]⟩ : ByteArray), ([] : List (S34)), false, 0, (⟨#[]⟩ : ByteArray), t546)))
theorem keystoneref3_Method.mono : ∀ a0 a1 k, LeO (keystoneref3_Method.f k a0 a1) (keystoneref3_Method.f (k + 1) a0 a1) := by
  intro a0 a1 k
  unfold keystoneref3_Method.f
  repeat' first
      | (with_reducible exact keystoneref2_Sig.mono _ _)
      | (with_reducible exact keystoneref3_held.mono _ _ _ _)
      | (with_reducible exact LeO.refl _)
      | (with_reducible exact LeO.none _)
      | (with_reducible refine LeO.ite ?_ ?_)
      | (with_reducible refine LeO.bind ?_ (fun _ => ?_))
      | exact keystoneref2_Sig.mono _ _
      | exact keystoneref3_held.mono _ _ _ _
      | exact LeO.none _
      | refine LeO.ite ?_ ?_
      | refine LeO.bind ?_ (fun _ => ?_)
def keystoneref3_Method.T5 : Bool × List (List Nat × List Nat) := (true, [([], []), ([], []), ([], []), ([], []), ([2, 3], [2, 3]), ([4], [4]), ([5], [5]), ([1, 6], [1, 6]), ([7], [7]), ([8], [8]), ([0, 9], [0, 9]), ([10], [10]), ([11], [11]), ([], []), ([], []), ([], []), ([14, 15], [14, 15]), ([16], [16]), ([17], [17]), ([13, 18], [13, 18]), ([19], [19]), ([20], [20]), ([], []), ([12, 0, 1, 2, 3, 4, 5, 6, 7, 8, 9, 10, 11, 12], [12]), ([21, 23, 0, 1, 2, 3, 4, 5, 6, 7, 8, 9, 10, 11, 12, 13, 14, 15, 16, 17, 18, 19, 20, 21, 23], [21]), ([22, 24, 0, 1, 2, 3, 4, 5, 6, 7, 8, 9, 10, 11, 12, 13, 14, 15, 16, 17, 18, 19, 20, 21, 22, 23, 24], [22]), ([25, 0, 1, 2, 3, 4, 5, 6, 7, 8, 9, 10, 11, 12, 13, 14, 15, 16, 17, 18, 19, 20, 21, 22, 23, 24, 25], [])])
def keystoneref3_Method.B5 : List Nat := [0, 0, 0, 0, 12, 28, 60, 126, 254, 510, 1023, 2047, 4095, 0, 0, 0, 49152, 114688, 245760, 516096, 1040384, 2088960, 0, 8191, 12582911, 33554431, 67108863]
theorem keystoneref3_Method.tab5 : rtab .any (opsOf Tryd.f49 5) = keystoneref3_Method.T5 := by kernel_rfl
theorem keystoneref3_Method.bits5 : waitsOk keystoneref3_Method.T5.2 keystoneref3_Method.B5 = true := by kernel_rfl
set_option maxHeartbeats 8000000 in
set_option maxRecDepth 100000 in
theorem keystoneref3_Method.calls (k : Nat) (A0 : Option Addr) (c0 : Nat) (l0 : List (S50)) (a1 : Int) (r1 : ByteArray) (r2 : ByteArray) (r3 : List (S34)) (r4 : Bool) (r5 : Int) (r6 : ByteArray) (r7 : Int) (w : World) (hr0 : Kd.C k50 w A0 l0.length l0) (hc0 : l0.length ≤ c0) (h : keystoneref3_Method.f k l0 a1 = some (r1, r2, r3, r4, r5, r6, r7)) :
    Calls Tryd.prog 49 #[.slice A0 l0.length c0, .int .i64 a1] w fun e w' => ∃ v2_ : Value, e = .returned (.tuple #[.string r1, .string r2, .agg #[v2_, .bool r4, .int .i64 r5, .string r6], .int .i64 r7]) ∧ Kd.R k34 34 w' w.heap.size (fun _ => True) v2_ r3 ∧ Below w.heap.size w w' := by
  have hu39 := Tryd.underlying39
  have HR0 := Aside0.mk hr0
  have HC0 := Aside0.mk hc0
  clear hr0 hc0
  have HB := Aside0.mk (Below.refl w.heap.size w)
  have H : ((keystoneref3_held.f k l0 a1 6).bind fun t546 => (if t546 = 0 then (if 0 ≤ a1 then (if a1 < (l0.length : Int) then (if 0 ≤ ((rd_T50 l0 a1).f5) then (if ((rd_T50 l0 a1).f5) < (l0.length : Int) then ((keystoneref2_Sig.f k ((rd_T50 l0 ((rd_T50 l0 a1).f5)).f1)).bind fun bt549 => (if 0 ≤ ((rd_T50 l0 a1).f3) then (if ((rd_T50 l0 a1).f3) < (l0.length : Int) then (if 0 ≤ ((rd_T50 l0 ((rd_T50 l0 a1).f3)).f3) then (if ((rd_T50 l0 ((rd_T50 l0 a1).f3)).f3) < (l0.length : Int) then (if 0 ≤ ((rd_T50 l0 a1).f4) then (if ((rd_T50 l0 a1).f4) < (l0.length : Int) then (some ((rd_T50 l0 ((rd_T50 l0 ((rd_T50 l0 a1).f3)).f3)).f1, (rd_T50 l0 ((rd_T50 l0 a1).f4)).f1, bt549.1, bt549.2.1, bt549.2.2.1, bt549.2.2.2.1, 0)) else (none)) else (none)) else (none)) else (none)) else (none)) else (none))) else (none)) else (none)) else (none)) else (none)) else (some ((⟨#[]⟩ : ByteArray), (⟨#[]⟩ : ByteArray), ([] : List (S34)), false, 0, (⟨#[]⟩ : ByteArray), t546)))) = some (r1, r2, r3, r4, r5, r6, r7) := h
  clear h
  replace H := Option.bind_eq_some_iff.mp H
  obtain ⟨t546, A30, H⟩ := H
  replace H : (if t546 = 0 then (if 0 ≤ a1 then (if a1 < (l0.length : Int) then (if 0 ≤ ((rd_T50 l0 a1).f5) then (if ((rd_T50 l0 a1).f5) < (l0.length : Int) then ((keystoneref2_Sig.f k ((rd_T50 l0 ((rd_T50 l0 a1).f5)).f1)).bind fun bt549 => (if 0 ≤ ((rd_T50 l0 a1).f3) then (if ((rd_T50 l0 a1).f3) < (l0.length : Int) then (if 0 ≤ ((rd_T50 l0 ((rd_T50 l0 a1).f3)).f3) then (if ((rd_T50 l0 ((rd_T50 l0 a1).f3)).f3) < (l0.length : Int) then (if 0 ≤ ((rd_T50 l0 a1).f4) then (if ((rd_T50 l0 a1).f4) < (l0.length : Int) then (some ((rd_T50 l0 ((rd_T50 l0 ((rd_T50 l0 a1).f3)).f3)).f1, (rd_T50 l0 ((rd_T50 l0 a1).f4)).f1, bt549.1, bt549.2.1, bt549.2.2.1, bt549.2.2.2.1, 0)) else (none)) else (none)) else (none)) else (none)) else (none)) else (none))) else (none)) else (none)) else (none)) else (none)) else (some ((⟨#[]⟩ : ByteArray), (⟨#[]⟩ : ByteArray), ([] : List (S34)), false, 0, (⟨#[]⟩ : ByteArray), t546))) = some (r1, r2, r3, r4, r5, r6, r7) := H
  have A3 := Aside0.mk A30
  clear A30
  by_cases c4 : t546 = 0
  · rw [if_pos c4] at H
    have c4b0 : (t546 == 0) = true := beq_iff_eq.mpr c4
    have c4b1 : (t546 != 0) = false := bne_eq_false_iff_eq.mpr c4
    clear c4
    by_cases c5 : 0 ≤ a1
    · rw [if_pos c5] at H
      have c5b0 : decide (0 ≤ a1) = true := decide_eq_true c5
      clear c5
      by_cases c6 : a1 < (l0.length : Int)
      · rw [if_pos c6] at H
        have c6b0 : decide (a1 < (l0.length : Int)) = true := decide_eq_true c6
        clear c6
        by_cases c7 : 0 ≤ ((rd_T50 l0 a1).f5)
        · rw [if_pos c7] at H
          have c7b0 : decide (0 ≤ ((rd_T50 l0 a1).f5)) = true := decide_eq_true c7
          clear c7
          by_cases c8 : ((rd_T50 l0 a1).f5) < (l0.length : Int)
          · rw [if_pos c8] at H
            have c8b0 : decide (((rd_T50 l0 a1).f5) < (l0.length : Int)) = true := decide_eq_true c8
            clear c8
            replace H := Option.bind_eq_some_iff.mp H
            obtain ⟨⟨t549, t552, t553, t554, t555⟩, A90, H⟩ := H
            replace H : (if 0 ≤ ((rd_T50 l0 a1).f3) then (if ((rd_T50 l0 a1).f3) < (l0.length : Int) then (if 0 ≤ ((rd_T50 l0 ((rd_T50 l0 a1).f3)).f3) then (if ((rd_T50 l0 ((rd_T50 l0 a1).f3)).f3) < (l0.length : Int) then (if 0 ≤ ((rd_T50 l0 a1).f4) then (if ((rd_T50 l0 a1).f4) < (l0.length : Int) then (some ((rd_T50 l0 ((rd_T50 l0 ((rd_T50 l0 a1).f3)).f3)).f1, (rd_T50 l0 ((rd_T50 l0 a1).f4)).f1, t549, t552, t553, t554, 0)) else (none)) else (none)) else (none)) else (none)) else (none)) else (none)) = some (r1, r2, r3, r4, r5, r6, r7) := H
            have A9 := Aside0.mk A90
            clear A90
            by_cases c10 : 0 ≤ ((rd_T50 l0 a1).f3)
            · rw [if_pos c10] at H
              have c10b0 : decide (0 ≤ ((rd_T50 l0 a1).f3)) = true := decide_eq_true c10
              clear c10
              by_cases c11 : ((rd_T50 l0 a1).f3) < (l0.length : Int)
              · rw [if_pos c11] at H
                have c11b0 : decide (((rd_T50 l0 a1).f3) < (l0.length : Int)) = true := decide_eq_true c11
                clear c11
                by_cases c12 : 0 ≤ ((rd_T50 l0 ((rd_T50 l0 a1).f3)).f3)
                · rw [if_pos c12] at H
                  have c12b0 : decide (0 ≤ ((rd_T50 l0 ((rd_T50 l0 a1).f3)).f3)) = true := decide_eq_true c12
                  clear c12
                  by_cases c13 : ((rd_T50 l0 ((rd_T50 l0 a1).f3)).f3) < (l0.length : Int)
                  · rw [if_pos c13] at H
                    have c13b0 : decide (((rd_T50 l0 ((rd_T50 l0 a1).f3)).f3) < (l0.length : Int)) = true := decide_eq_true c13
                    clear c13
                    by_cases c14 : 0 ≤ ((rd_T50 l0 a1).f4)
                    · rw [if_pos c14] at H
                      have c14b0 : decide (0 ≤ ((rd_T50 l0 a1).f4)) = true := decide_eq_true c14
                      clear c14
                      by_cases c15 : ((rd_T50 l0 a1).f4) < (l0.length : Int)
                      · rw [if_pos c15] at H
                        have c15b0 : decide (((rd_T50 l0 a1).f4) < (l0.length : Int)) = true := decide_eq_true c15
                        clear c15
                        simp only [Option.some.injEq, Prod.mk.injEq] at H
                        obtain ⟨rfl, rfl, rfl, rfl, rfl, rfl, rfl⟩ := H
                        go_enter Tryd.func49, Tryd.ntmps49
                        try go_wp2_with (first | ((with_reducible refine d_ 6 ?_); refine X_ 6 #[.slice none 0 0, .bool false, .int .i64 0, .string (⟨#[]⟩ : ByteArray)] 39 ?_; intro gb545 hg w16 hbox hb; have n0_ := Aside0.mk (below_step B_ hb); have n1_ := Aside0.mk (hbox); have n2_ := Aside0.mk (s_ hg); have n3_ := Aside0.mk (s_ hg); clear HB; have HB := n0_; have BK545 := n1_; have GW545 := n2_; have GE545 := n3_; clear n0_ n1_ n2_ n3_; clear hb hbox hg) | ((with_reducible refine gt_ 83 ?_); refine gc_ 13 Tryd.func83 #[.slice A0 l0.length c0, .int .i64 a1, .int .i64 6] ?_; (with_reducible refine (keystoneref3_held.calls k _ _ l0 a1 6 t546 _ ?side1 ?side2 A3.out).mono ?_); (case side1 => exact Y_ (Kd.C_below HR0.out HB.out)); (case side2 => exact HC0.out); rintro e w17 ⟨rfl, hb⟩; refine ⟨_, rfl, ?_⟩; have n0_ := Aside0.mk (blk_below (g := gb545) (o := .cells #[.slice none 0 0, .bool false, .int .i64 0, .string (⟨#[]⟩ : ByteArray)] 39 (0, 0)) M_ hb); have n1_ := Aside0.mk (below_step B_ hb); clear BK545; clear HB; have BK545 := n0_; have HB := n1_; clear n0_ n1_; (try clear hb); (try clear hb2); (try clear hk); (try clear hi); have p547 : 0 ≤ (a1 : Int) := of_decide_eq_true A_; have q547 : a1 < (l0.length : Int) := of_decide_eq_true A_; obtain ⟨ad547, e547, hx547_0, hx547_1, hx547_2, hx547_3, hx547_4, hx547_5⟩ := at_T50 HR0.out a1 p547 q547; cases e547; replace hx547_0 := h_ HB hx547_0; replace hx547_1 := h_ HB hx547_1; replace hx547_2 := h_ HB hx547_2; replace hx547_3 := h_ HB hx547_3; replace hx547_4 := h_ HB hx547_4; replace hx547_5 := h_ HB hx547_5; replace p547 := eq_true p547; replace q547 := eq_true q547; have p548 : 0 ≤ (((rd_T50 l0 a1).f5) : Int) := of_decide_eq_true A_; have q548 : ((rd_T50 l0 a1).f5) < (l0.length : Int) := of_decide_eq_true A_; obtain ⟨ad548, e548, hx548_0, hx548_1, hx548_2, hx548_3, hx548_4, hx548_5⟩ := at_T50 HR0.out ((rd_T50 l0 a1).f5) p548 q548; obtain rfl : ad547 = ad548 := (by injection e548); replace hx548_0 := h_ HB hx548_0; replace hx548_1 := h_ HB hx548_1; replace hx548_2 := h_ HB hx548_2; replace hx548_3 := h_ HB hx548_3; replace hx548_4 := h_ HB hx548_4; replace hx548_5 := h_ HB hx548_5; replace p548 := eq_true p548; replace q548 := eq_true q548) | ((with_reducible refine gt_ 85 ?_); refine gc_ 28 Tryd.func85 #[.string ((rd_T50 l0 ((rd_T50 l0 a1).f5)).f1)] ?_; (with_reducible refine (keystoneref2_Sig.calls k ((rd_T50 l0 ((rd_T50 l0 a1).f5)).f1) t549 t552 t553 t554 t555 _ A9.out).mono ?_); rintro e w18 ⟨v550, rfl, ho0, hb⟩; refine ⟨_, rfl, ?_⟩; have n0_ := Aside0.mk (Kd.R_lower ho0 (below_size B_)); have n1_ := Aside0.mk (blk_below (g := gb545) (o := .cells #[.slice none 0 0, .bool false, .int .i64 0, .string (⟨#[]⟩ : ByteArray)] 39 (0, 0)) M_ hb); have n2_ := Aside0.mk (below_step B_ hb); clear BK545; clear HB; have HO551 := n0_; have BK545 := n1_; have HB := n2_; clear n0_ n1_ n2_; (try clear hb); (try clear hb2); (try clear hk); (try clear hi); (try clear ho0)) | ((with_reducible refine d_ 9 ?_); refine X_ 9 #[.slice none 0 0, .bool false, .int .i64 0, .string (⟨#[]⟩ : ByteArray)] 39 ?_; intro gb556 hg w19 hbox hb; have n0_ := Aside0.mk (Kd.R_below (Q_ HO551.out) hb); have n1_ := Aside0.mk (blk_below (g := gb545) (o := .cells #[.slice none 0 0, .bool false, .int .i64 0, .string (⟨#[]⟩ : ByteArray)] 39 (0, 0)) M_ hb); have n2_ := Aside0.mk (below_step B_ hb); have n3_ := Aside0.mk (hbox); have n4_ := Aside0.mk (s_ hg); have n5_ := Aside0.mk (s_ hg); have n6_ := Aside0.mk (x_ hg (g := gb545) (o := .cells #[.slice none 0 0, .bool false, .int .i64 0, .string (⟨#[]⟩ : ByteArray)] 39 (0, 0)) M_); have n7_ := Aside0.mk n6_.out.symm; clear HO551; clear BK545; clear HB; have HO551 := n0_; have BK545 := n1_; have HB := n2_; have BK556 := n3_; have GW556 := n4_; have GE556 := n5_; have NB545_556 := n6_; have NB556_545 := n7_; clear n0_ n1_ n2_ n3_ n4_ n5_ n6_ n7_; clear hb hbox hg; obtain ⟨Ao20, co20, eo20⟩ := Kd.R_slice HO551.out; subst eo20; have hnb21 := NB556_545.out; have hnc21 := NB545_556.out; obtain ⟨hcz22_0, hcz22_1, hcz22_2, hcz22_3, hfz22_0, hfz22_1, hfz22_2, hfz22_3⟩ := c4_ BK556.out))
                        have n0_ : Aside0 (Kd.R k34 34 ((((w19.setCell ⟨gb556, 0, none⟩ (.slice Ao20 t549.length co20)).setCell ⟨gb556, 1, none⟩ (.bool t552)).setCell ⟨gb556, 2, none⟩ (.int .i64 t553)).setCell ⟨gb556, 3, none⟩ (.string t554)) w.heap.size (fun _ => True) (.slice Ao20 t549.length co20) t549) := ⟨by (with_reducible repeat (first | apply Kd.R_alloc | apply Kd.R_drewN | apply Kd.R_drew)); exact Kd.R_mono (Kd.R_far (p := ⟨gb556, 3, none⟩) (Kd.R_far (p := ⟨gb556, 2, none⟩) (Kd.R_far (p := ⟨gb556, 1, none⟩) (Kd.R_far (p := ⟨gb556, 0, none⟩) (Kd.R_types HO551.out BK556.out (by decide)) (fun _ hk => hk.2) (.slice Ao20 t549.length co20)) (fun _ hk => hk.2) (.bool t552)) (fun _ hk => hk.2) (.int .i64 t553)) (fun _ hk => hk.2) (.string t554)) (fun _ hk => trivial)⟩
                        have n1_ : Aside0 (((((w19.setCell ⟨gb556, 0, none⟩ (.slice Ao20 t549.length co20)).setCell ⟨gb556, 1, none⟩ (.bool t552)).setCell ⟨gb556, 2, none⟩ (.int .i64 t553)).setCell ⟨gb556, 3, none⟩ (.string t554)).heap[gb545]? = some (.cells #[.slice none 0 0, .bool false, .int .i64 0, .string (⟨#[]⟩ : ByteArray)] 39 (0, 0))) := ⟨P_⟩
                        have n2_ : Aside0 (((((w19.setCell ⟨gb556, 0, none⟩ (.slice Ao20 t549.length co20)).setCell ⟨gb556, 1, none⟩ (.bool t552)).setCell ⟨gb556, 2, none⟩ (.int .i64 t553)).setCell ⟨gb556, 3, none⟩ (.string t554)).heap[gb556]? = some (.cells #[.slice Ao20 t549.length co20, .bool t552, .int .i64 t553, .string t554] 39 (0, 0))) := ⟨P_⟩
                        have n3_ : Aside0 (Below w.heap.size w ((((w19.setCell ⟨gb556, 0, none⟩ (.slice Ao20 t549.length co20)).setCell ⟨gb556, 1, none⟩ (.bool t552)).setCell ⟨gb556, 2, none⟩ (.int .i64 t553)).setCell ⟨gb556, 3, none⟩ (.string t554))) := ⟨B_⟩
                        (try clear HO551)
                        (try clear BK545)
                        (try clear BK556)
                        (try clear HB)
                        generalize ((((w19.setCell ⟨gb556, 0, none⟩ (.slice Ao20 t549.length co20)).setCell ⟨gb556, 1, none⟩ (.bool t552)).setCell ⟨gb556, 2, none⟩ (.int .i64 t553)).setCell ⟨gb556, 3, none⟩ (.string t554)) = w23 at n0_ n1_ n2_ n3_ ⊢
                        have HO551 := n0_
                        have BK545 := n1_
                        have BK556 := n2_
                        have HB := n3_
                        clear n0_ n1_ n2_ n3_
                        have n0_ := Aside0.mk (Kd.R_drew HO551.out)
                        have n1_ := Aside0.mk (blk_drew BK545.out)
                        have n2_ := Aside0.mk (blk_drew BK556.out)
                        have n3_ := Aside0.mk (below_drew1 HB.out)
                        clear HO551
                        clear BK545
                        clear BK556
                        clear HB
                        have HO551 := n0_
                        have BK545 := n1_
                        have BK556 := n2_
                        have HB := n3_
                        clear n0_ n1_ n2_ n3_
                        have p557 : 0 ≤ (a1 : Int) := of_decide_eq_true A_
                        have q557 : a1 < (l0.length : Int) := of_decide_eq_true A_
                        obtain ⟨ad557, e557, hx557_0, hx557_1, hx557_2, hx557_3, hx557_4, hx557_5⟩ := at_T50 HR0.out a1 p557 q557
                        have hw557_5 := hx557_5
                        have hw557_4 := hx557_4
                        have hw557_3 := hx557_3
                        have hw557_2 := hx557_2
                        have hw557_1 := hx557_1
                        have hw557_0 := hx557_0
                        obtain rfl : ad547 = ad557 := (by injection e557)
                        replace hx557_0 := h_ HB hx557_0
                        replace hx557_1 := h_ HB hx557_1
                        replace hx557_2 := h_ HB hx557_2
                        replace hx557_3 := h_ HB hx557_3
                        replace hx557_4 := h_ HB hx557_4
                        replace hx557_5 := h_ HB hx557_5
                        replace p557 := eq_true p557
                        replace q557 := eq_true q557
                        have p558 : 0 ≤ (((rd_T50 l0 a1).f3) : Int) := of_decide_eq_true A_
                        have q558 : ((rd_T50 l0 a1).f3) < (l0.length : Int) := of_decide_eq_true A_
                        obtain ⟨ad558, e558, hx558_0, hx558_1, hx558_2, hx558_3, hx558_4, hx558_5⟩ := at_T50 HR0.out ((rd_T50 l0 a1).f3) p558 q558
                        have hw558_5 := hx558_5
                        have hw558_4 := hx558_4
                        have hw558_3 := hx558_3
                        have hw558_2 := hx558_2
                        have hw558_1 := hx558_1
                        have hw558_0 := hx558_0
                        obtain rfl : ad547 = ad558 := (by injection e558)
                        replace hx558_0 := h_ HB hx558_0
                        replace hx558_1 := h_ HB hx558_1
                        replace hx558_2 := h_ HB hx558_2
                        replace hx558_3 := h_ HB hx558_3
                        replace hx558_4 := h_ HB hx558_4
                        replace hx558_5 := h_ HB hx558_5
                        replace p558 := eq_true p558
                        replace q558 := eq_true q558
                        have p559 : 0 ≤ (((rd_T50 l0 ((rd_T50 l0 a1).f3)).f3) : Int) := of_decide_eq_true A_
                        have q559 : ((rd_T50 l0 ((rd_T50 l0 a1).f3)).f3) < (l0.length : Int) := of_decide_eq_true A_
                        obtain ⟨ad559, e559, hx559_0, hx559_1, hx559_2, hx559_3, hx559_4, hx559_5⟩ := at_T50 HR0.out ((rd_T50 l0 ((rd_T50 l0 a1).f3)).f3) p559 q559
                        have hw559_5 := hx559_5
                        have hw559_4 := hx559_4
                        have hw559_3 := hx559_3
                        have hw559_2 := hx559_2
                        have hw559_1 := hx559_1
                        have hw559_0 := hx559_0
                        obtain rfl : ad547 = ad559 := (by injection e559)
                        replace hx559_0 := h_ HB hx559_0
                        replace hx559_1 := h_ HB hx559_1
                        replace hx559_2 := h_ HB hx559_2
                        replace hx559_3 := h_ HB hx559_3
                        replace hx559_4 := h_ HB hx559_4
                        replace hx559_5 := h_ HB hx559_5
                        replace p559 := eq_true p559
                        replace q559 := eq_true q559
                        have p560 : 0 ≤ (a1 : Int) := of_decide_eq_true A_
                        have q560 : a1 < (l0.length : Int) := of_decide_eq_true A_
                        obtain ⟨ad560, e560, hx560_0, hx560_1, hx560_2, hx560_3, hx560_4, hx560_5⟩ := at_T50 HR0.out a1 p560 q560
                        have hw560_5 := hx560_5
                        have hw560_4 := hx560_4
                        have hw560_3 := hx560_3
                        have hw560_2 := hx560_2
                        have hw560_1 := hx560_1
                        have hw560_0 := hx560_0
                        obtain rfl : ad547 = ad560 := (by injection e560)
                        replace hx560_0 := h_ HB hx560_0
                        replace hx560_1 := h_ HB hx560_1
                        replace hx560_2 := h_ HB hx560_2
                        replace hx560_3 := h_ HB hx560_3
                        replace hx560_4 := h_ HB hx560_4
                        replace hx560_5 := h_ HB hx560_5
                        replace p560 := eq_true p560
                        replace q560 := eq_true q560
                        have p561 : 0 ≤ (((rd_T50 l0 a1).f4) : Int) := of_decide_eq_true A_
                        have q561 : ((rd_T50 l0 a1).f4) < (l0.length : Int) := of_decide_eq_true A_
                        obtain ⟨ad561, e561, hx561_0, hx561_1, hx561_2, hx561_3, hx561_4, hx561_5⟩ := at_T50 HR0.out ((rd_T50 l0 a1).f4) p561 q561
                        have hw561_5 := hx561_5
                        have hw561_4 := hx561_4
                        have hw561_3 := hx561_3
                        have hw561_2 := hx561_2
                        have hw561_1 := hx561_1
                        have hw561_0 := hx561_0
                        obtain rfl : ad547 = ad561 := (by injection e561)
                        replace hx561_0 := h_ HB hx561_0
                        replace hx561_1 := h_ HB hx561_1
                        replace hx561_2 := h_ HB hx561_2
                        replace hx561_3 := h_ HB hx561_3
                        replace hx561_4 := h_ HB hx561_4
                        replace hx561_5 := h_ HB hx561_5
                        replace p561 := eq_true p561
                        replace q561 := eq_true q561
                        refine start_ (n := 27) (S := fun w' => w'.cell? ⟨gb556, 0, none⟩ = some (.slice Ao20 t549.length co20) ∧ w'.cell? ⟨gb556, 1, none⟩ = some (.bool t552) ∧ w'.cell? ⟨gb556, 2, none⟩ = some (.int .i64 t553) ∧ w'.cell? ⟨gb556, 3, none⟩ = some (.string t554) ∧ w'.cell? (ad547.add ((a1).toNat * 6)) = some (.int .i64 ((rd_T50 l0 a1).f0)) ∧ w'.cell? ⟨(ad547.add ((a1).toNat * 6)).block, (ad547.add ((a1).toNat * 6)).off + 1, none⟩ = some (.string ((rd_T50 l0 a1).f1)) ∧ w'.cell? ⟨(ad547.add ((a1).toNat * 6)).block, (ad547.add ((a1).toNat * 6)).off + 2, none⟩ = some (.int .i64 ((rd_T50 l0 a1).f2)) ∧ w'.cell? ⟨(ad547.add ((a1).toNat * 6)).block, (ad547.add ((a1).toNat * 6)).off + 3, none⟩ = some (.int .i64 ((rd_T50 l0 a1).f3)) ∧ w'.cell? ⟨(ad547.add ((a1).toNat * 6)).block, (ad547.add ((a1).toNat * 6)).off + 4, none⟩ = some (.int .i64 ((rd_T50 l0 a1).f4)) ∧ w'.cell? ⟨(ad547.add ((a1).toNat * 6)).block, (ad547.add ((a1).toNat * 6)).off + 5, none⟩ = some (.int .i64 ((rd_T50 l0 a1).f5)) ∧ w'.cell? (ad547.add ((((rd_T50 l0 a1).f3)).toNat * 6)) = some (.int .i64 ((rd_T50 l0 ((rd_T50 l0 a1).f3)).f0)) ∧ w'.cell? ⟨(ad547.add ((((rd_T50 l0 a1).f3)).toNat * 6)).block, (ad547.add ((((rd_T50 l0 a1).f3)).toNat * 6)).off + 1, none⟩ = some (.string ((rd_T50 l0 ((rd_T50 l0 a1).f3)).f1)) ∧ w'.cell? ⟨(ad547.add ((((rd_T50 l0 a1).f3)).toNat * 6)).block, (ad547.add ((((rd_T50 l0 a1).f3)).toNat * 6)).off + 2, none⟩ = some (.int .i64 ((rd_T50 l0 ((rd_T50 l0 a1).f3)).f2)) ∧ w'.cell? ⟨(ad547.add ((((rd_T50 l0 a1).f3)).toNat * 6)).block, (ad547.add ((((rd_T50 l0 a1).f3)).toNat * 6)).off + 3, none⟩ = some (.int .i64 ((rd_T50 l0 ((rd_T50 l0 a1).f3)).f3)) ∧ w'.cell? ⟨(ad547.add ((((rd_T50 l0 a1).f3)).toNat * 6)).block, (ad547.add ((((rd_T50 l0 a1).f3)).toNat * 6)).off + 4, none⟩ = some (.int .i64 ((rd_T50 l0 ((rd_T50 l0 a1).f3)).f4)) ∧ w'.cell? ⟨(ad547.add ((((rd_T50 l0 a1).f3)).toNat * 6)).block, (ad547.add ((((rd_T50 l0 a1).f3)).toNat * 6)).off + 5, none⟩ = some (.int .i64 ((rd_T50 l0 ((rd_T50 l0 a1).f3)).f5)) ∧ w'.cell? (ad547.add ((((rd_T50 l0 ((rd_T50 l0 a1).f3)).f3)).toNat * 6)) = some (.int .i64 ((rd_T50 l0 ((rd_T50 l0 ((rd_T50 l0 a1).f3)).f3)).f0)) ∧ w'.cell? ⟨(ad547.add ((((rd_T50 l0 ((rd_T50 l0 a1).f3)).f3)).toNat * 6)).block, (ad547.add ((((rd_T50 l0 ((rd_T50 l0 a1).f3)).f3)).toNat * 6)).off + 1, none⟩ = some (.string ((rd_T50 l0 ((rd_T50 l0 ((rd_T50 l0 a1).f3)).f3)).f1)) ∧ w'.cell? ⟨(ad547.add ((((rd_T50 l0 ((rd_T50 l0 a1).f3)).f3)).toNat * 6)).block, (ad547.add ((((rd_T50 l0 ((rd_T50 l0 a1).f3)).f3)).toNat * 6)).off + 2, none⟩ = some (.int .i64 ((rd_T50 l0 ((rd_T50 l0 ((rd_T50 l0 a1).f3)).f3)).f2)) ∧ w'.cell? ⟨(ad547.add ((((rd_T50 l0 ((rd_T50 l0 a1).f3)).f3)).toNat * 6)).block, (ad547.add ((((rd_T50 l0 ((rd_T50 l0 a1).f3)).f3)).toNat * 6)).off + 3, none⟩ = some (.int .i64 ((rd_T50 l0 ((rd_T50 l0 ((rd_T50 l0 a1).f3)).f3)).f3)) ∧ w'.cell? ⟨(ad547.add ((((rd_T50 l0 ((rd_T50 l0 a1).f3)).f3)).toNat * 6)).block, (ad547.add ((((rd_T50 l0 ((rd_T50 l0 a1).f3)).f3)).toNat * 6)).off + 4, none⟩ = some (.int .i64 ((rd_T50 l0 ((rd_T50 l0 ((rd_T50 l0 a1).f3)).f3)).f4)) ∧ w'.cell? ⟨(ad547.add ((((rd_T50 l0 ((rd_T50 l0 a1).f3)).f3)).toNat * 6)).block, (ad547.add ((((rd_T50 l0 ((rd_T50 l0 a1).f3)).f3)).toNat * 6)).off + 5, none⟩ = some (.int .i64 ((rd_T50 l0 ((rd_T50 l0 ((rd_T50 l0 a1).f3)).f3)).f5)) ∧ w'.cell? (ad547.add ((a1).toNat * 6)) = some (.int .i64 ((rd_T50 l0 a1).f0)) ∧ w'.cell? ⟨(ad547.add ((a1).toNat * 6)).block, (ad547.add ((a1).toNat * 6)).off + 1, none⟩ = some (.string ((rd_T50 l0 a1).f1)) ∧ w'.cell? ⟨(ad547.add ((a1).toNat * 6)).block, (ad547.add ((a1).toNat * 6)).off + 2, none⟩ = some (.int .i64 ((rd_T50 l0 a1).f2)) ∧ w'.cell? ⟨(ad547.add ((a1).toNat * 6)).block, (ad547.add ((a1).toNat * 6)).off + 3, none⟩ = some (.int .i64 ((rd_T50 l0 a1).f3)) ∧ w'.cell? ⟨(ad547.add ((a1).toNat * 6)).block, (ad547.add ((a1).toNat * 6)).off + 4, none⟩ = some (.int .i64 ((rd_T50 l0 a1).f4)) ∧ w'.cell? ⟨(ad547.add ((a1).toNat * 6)).block, (ad547.add ((a1).toNat * 6)).off + 5, none⟩ = some (.int .i64 ((rd_T50 l0 a1).f5)) ∧ w'.cell? (ad547.add ((((rd_T50 l0 a1).f4)).toNat * 6)) = some (.int .i64 ((rd_T50 l0 ((rd_T50 l0 a1).f4)).f0)) ∧ w'.cell? ⟨(ad547.add ((((rd_T50 l0 a1).f4)).toNat * 6)).block, (ad547.add ((((rd_T50 l0 a1).f4)).toNat * 6)).off + 1, none⟩ = some (.string ((rd_T50 l0 ((rd_T50 l0 a1).f4)).f1)) ∧ w'.cell? ⟨(ad547.add ((((rd_T50 l0 a1).f4)).toNat * 6)).block, (ad547.add ((((rd_T50 l0 a1).f4)).toNat * 6)).off + 2, none⟩ = some (.int .i64 ((rd_T50 l0 ((rd_T50 l0 a1).f4)).f2)) ∧ w'.cell? ⟨(ad547.add ((((rd_T50 l0 a1).f4)).toNat * 6)).block, (ad547.add ((((rd_T50 l0 a1).f4)).toNat * 6)).off + 3, none⟩ = some (.int .i64 ((rd_T50 l0 ((rd_T50 l0 a1).f4)).f3)) ∧ w'.cell? ⟨(ad547.add ((((rd_T50 l0 a1).f4)).toNat * 6)).block, (ad547.add ((((rd_T50 l0 a1).f4)).toNat * 6)).off + 4, none⟩ = some (.int .i64 ((rd_T50 l0 ((rd_T50 l0 a1).f4)).f4)) ∧ w'.cell? ⟨(ad547.add ((((rd_T50 l0 a1).f4)).toNat * 6)).block, (ad547.add ((((rd_T50 l0 a1).f4)).toNat * 6)).off + 5, none⟩ = some (.int .i64 ((rd_T50 l0 ((rd_T50 l0 a1).f4)).f5))) (ds := []) #[false, false, false, false, false, false, false, false, false, false, false, false, false, false, false, false, false, false, false, false, false, false, false, false, false, false, false] (by kernel_rfl) rfl rfl ⟨(blk_cell BK556.out 0).trans rfl, (blk_cell BK556.out 1).trans rfl, (blk_cell BK556.out 2).trans rfl, (blk_cell BK556.out 3).trans rfl, ((HB.out.cell (World.block_lt_of_cell? w _ hw557_0)).trans hw557_0), ((HB.out.cell (World.block_lt_of_cell? w _ hw557_1)).trans hw557_1), ((HB.out.cell (World.block_lt_of_cell? w _ hw557_2)).trans hw557_2), ((HB.out.cell (World.block_lt_of_cell? w _ hw557_3)).trans hw557_3), ((HB.out.cell (World.block_lt_of_cell? w _ hw557_4)).trans hw557_4), ((HB.out.cell (World.block_lt_of_cell? w _ hw557_5)).trans hw557_5), ((HB.out.cell (World.block_lt_of_cell? w _ hw558_0)).trans hw558_0), ((HB.out.cell (World.block_lt_of_cell? w _ hw558_1)).trans hw558_1), ((HB.out.cell (World.block_lt_of_cell? w _ hw558_2)).trans hw558_2), ((HB.out.cell (World.block_lt_of_cell? w _ hw558_3)).trans hw558_3), ((HB.out.cell (World.block_lt_of_cell? w _ hw558_4)).trans hw558_4), ((HB.out.cell (World.block_lt_of_cell? w _ hw558_5)).trans hw558_5), ((HB.out.cell (World.block_lt_of_cell? w _ hw559_0)).trans hw559_0), ((HB.out.cell (World.block_lt_of_cell? w _ hw559_1)).trans hw559_1), ((HB.out.cell (World.block_lt_of_cell? w _ hw559_2)).trans hw559_2), ((HB.out.cell (World.block_lt_of_cell? w _ hw559_3)).trans hw559_3), ((HB.out.cell (World.block_lt_of_cell? w _ hw559_4)).trans hw559_4), ((HB.out.cell (World.block_lt_of_cell? w _ hw559_5)).trans hw559_5), ((HB.out.cell (World.block_lt_of_cell? w _ hw560_0)).trans hw560_0), ((HB.out.cell (World.block_lt_of_cell? w _ hw560_1)).trans hw560_1), ((HB.out.cell (World.block_lt_of_cell? w _ hw560_2)).trans hw560_2), ((HB.out.cell (World.block_lt_of_cell? w _ hw560_3)).trans hw560_3), ((HB.out.cell (World.block_lt_of_cell? w _ hw560_4)).trans hw560_4), ((HB.out.cell (World.block_lt_of_cell? w _ hw560_5)).trans hw560_5), ((HB.out.cell (World.block_lt_of_cell? w _ hw561_0)).trans hw561_0), ((HB.out.cell (World.block_lt_of_cell? w _ hw561_1)).trans hw561_1), ((HB.out.cell (World.block_lt_of_cell? w _ hw561_2)).trans hw561_2), ((HB.out.cell (World.block_lt_of_cell? w _ hw561_3)).trans hw561_3), ((HB.out.cell (World.block_lt_of_cell? w _ hw561_4)).trans hw561_4), ((HB.out.cell (World.block_lt_of_cell? w _ hw561_5)).trans hw561_5)⟩ (fun hHeld => ?_); refine with_tabW keystoneref3_Method.tab5 keystoneref3_Method.bits5 (fun HT_ HW_ => ?_)
                        generalize w23.drew = w24 at HO551 BK545 BK556 HB hx557_0 hx557_1 hx557_2 hx557_3 hx557_4 hx557_5 hx558_0 hx558_1 hx558_2 hx558_3 hx558_4 hx558_5 hx559_0 hx559_1 hx559_2 hx559_3 hx559_4 hx559_5 hx560_0 hx560_1 hx560_2 hx560_3 hx560_4 hx560_5 hx561_0 hx561_1 hx561_2 hx561_3 hx561_4 hx561_5 hHeld ⊢
                        refine u_ 0 31 (bb 27 1) ?_
                        refine u_ 1 32 (bb 27 3) ?_
                        refine u_ 2 33 (bb 27 7) ?_
                        refine u_ 3 34 (bb 27 15) ?_
                        refine u_ 4 35 (bb 27 31) ?_
                        refine u_ 5 36 (bb 27 63) ?_
                        refine u_ 13 44 (bb 27 8255) ?_
                        refine u_ 14 45 (bb 27 24639) ?_
                        refine u_ 15 46 (bb 27 57407) ?_
                        refine u_ 16 47 (bb 27 122943) ?_
                        refine u_ 17 48 (bb 27 254015) ?_
                        refine t_ 6 37 (bb 27 254079) ?_
                        refine u_ 7 38 (bb 27 254207) ?_
                        refine u_ 8 39 (bb 27 254463) ?_
                        refine t_ 9 40 (bb 27 254975) ?_
                        refine u_ 10 41 (bb 27 255999) ?_
                        refine u_ 11 42 (bb 27 258047) ?_
                        refine t_ 12 43 (bb 27 262143) ?_
                        refine u_ 23 4 (bb 27 8650751) ?_
                        refine t_ 18 49 (bb 27 8912895) ?_
                        refine u_ 19 50 (bb 27 9437183) ?_
                        refine u_ 20 51 (bb 27 10485759) ?_
                        refine t_ 21 52 (bb 27 12582911) ?_
                        refine u_ 24 5 (bb 27 29360127) ?_
                        refine t_ 22 53 (bb 27 33554431) ?_
                        refine one_ (i := 25) (N := none) #[true, true, true, true, true, true, true, true, true, true, true, true, true, true, true, true, true, true, true, true, true, true, true, true, true, true, false] rfl rfl (one_of HT_.out (by kernel_rfl)) (by decide) (fun K hK => ?_)
                        have hs25 : w24.cell? ⟨gb545, 0, none⟩ = some (.slice none 0 0) := (blk_cell BK545.out 0).trans rfl
                        have hfs25 := blk_frozen BK545.out 0
                        have hns25_1 := NB556_545.out
                        have hms25_1 := NB545_556.out
                        have hs26 : w24.cell? ⟨gb545, 1, none⟩ = some (.bool false) := (blk_cell BK545.out 1).trans rfl
                        have hfs26 := blk_frozen BK545.out 1
                        have hns26_1 := NB556_545.out
                        have hms26_1 := NB545_556.out
                        have hs27 : w24.cell? ⟨gb545, 2, none⟩ = some (.int .i64 0) := (blk_cell BK545.out 2).trans rfl
                        have hfs27 := blk_frozen BK545.out 2
                        have hns27_1 := NB556_545.out
                        have hms27_1 := NB545_556.out
                        have hs28 : w24.cell? ⟨gb545, 3, none⟩ = some (.string (⟨#[]⟩ : ByteArray)) := (blk_cell BK545.out 3).trans rfl
                        have hfs28 := blk_frozen BK545.out 3
                        have hns28_1 := NB556_545.out
                        have hms28_1 := NB545_556.out
                        refine skip_ (w1 := ?_) (by rfl) rfl ?_ ?_
                        rotate_left
                        · go_simp
                          rfl
                        refine hK.out _ _ (S_ hHeld) (fun hHeld => ?_)
                        clear hK K
                        refine u_ 26 7 (bb 27 134217727) ?_
                        refine done_ (done_of HT_.out (by kernel_rfl)) ?_
                        try go_wp2
                        refine bodyPost_ret (results_list (rs := [.tmp 4, .tmp 5, .cell 6 39, .tmp 7]) rfl (by simp) (.tmp (.tmp (.cell gb545 39 #[.slice Ao20 t549.length co20, .bool t552, .int .i64 t553, .string t554] (0, 0) _ rfl P_ Tryd.underlying39 rfl (by kernel_rfl) (.tmp .nil))))) rfl ?_
                        exact ⟨_, E_, by (with_reducible repeat (first | apply Kd.R_alloc | apply Kd.R_drewN | apply Kd.R_drew)); exact Kd.R_mono (Kd.R_far (p := ⟨gb545, 3, none⟩) (Kd.R_far (p := ⟨gb545, 2, none⟩) (Kd.R_far (p := ⟨gb545, 1, none⟩) (Kd.R_far (p := ⟨gb545, 0, none⟩) (Kd.R_types HO551.out BK545.out (by decide)) (fun _ hk => hk.2) (.slice Ao20 t549.length co20)) (fun _ hk => hk.2) (.bool t552)) (fun _ hk => hk.2) (.int .i64 t553)) (fun _ hk => hk.2) (.string t554)) (fun _ hk => trivial), B_⟩
                      · rw [if_neg c15] at H
                        exact absurd H (by simp)
                    · rw [if_neg c14] at H
                      exact absurd H (by simp)
                  · rw [if_neg c13] at H
                    exact absurd H (by simp)
                · rw [if_neg c12] at H
                  exact absurd H (by simp)
              · rw [if_neg c11] at H
                exact absurd H (by simp)
            · rw [if_neg c10] at H
              exact absurd H (by simp)
          · rw [if_neg c8] at H
            exact absurd H (by simp)
        · rw [if_neg c7] at H
          exact absurd H (by simp)
      · rw [if_neg c6] at H
        exact absurd H (by simp)
    · rw [if_neg c5] at H
      exact absurd H (by simp)
  · rw [if_neg c4] at H
    have c4b0 : (t546 == 0) = false := beq_eq_false_iff_ne.mpr c4
    have c4b1 : (t546 != 0) = true := bne_iff_ne.mpr c4
    simp only [Option.some.injEq, Prod.mk.injEq] at H
    obtain ⟨rfl, rfl, rfl, rfl, rfl, rfl, rfl⟩ := H
    go_enter Tryd.func49, Tryd.ntmps49
    go_wp2_with (first | ((with_reducible refine d_ 6 ?_); refine X_ 6 #[.slice none 0 0, .bool false, .int .i64 0, .string (⟨#[]⟩ : ByteArray)] 39 ?_; intro gb545 hg w29 hbox hb; have n0_ := Aside0.mk (below_step B_ hb); have n1_ := Aside0.mk (hbox); have n2_ := Aside0.mk (s_ hg); have n3_ := Aside0.mk (s_ hg); clear HB; have HB := n0_; have BK545 := n1_; have GW545 := n2_; have GE545 := n3_; clear n0_ n1_ n2_ n3_; clear hb hbox hg) | ((with_reducible refine gt_ 83 ?_); refine gc_ 13 Tryd.func83 #[.slice A0 l0.length c0, .int .i64 a1, .int .i64 6] ?_; (with_reducible refine (keystoneref3_held.calls k _ _ l0 a1 6 t546 _ ?side1 ?side2 A3.out).mono ?_); (case side1 => exact Y_ (Kd.C_below HR0.out HB.out)); (case side2 => exact HC0.out); rintro e w30 ⟨rfl, hb⟩; refine ⟨_, rfl, ?_⟩; have n0_ := Aside0.mk (blk_below (g := gb545) (o := .cells #[.slice none 0 0, .bool false, .int .i64 0, .string (⟨#[]⟩ : ByteArray)] 39 (0, 0)) M_ hb); have n1_ := Aside0.mk (below_step B_ hb); clear BK545; clear HB; have BK545 := n0_; have HB := n1_; clear n0_ n1_; (try clear hb); (try clear hb2); (try clear hk); (try clear hi); obtain ⟨hcz31_0, hcz31_1, hcz31_2, hcz31_3, hfz31_0, hfz31_1, hfz31_2, hfz31_3⟩ := c4_ BK545.out))
    refine bodyPost_ret (results_list (rs := [.tmp 4, .tmp 5, .cell 6 39, .tmp 7]) rfl (by simp) (.tmp (.tmp (.cell gb545 39 #[.slice none 0 0, .bool false, .int .i64 0, .string (⟨#[]⟩ : ByteArray)] (0, 0) _ rfl P_ Tryd.underlying39 rfl (by kernel_rfl) (.tmp .nil))))) rfl ?_
    exact ⟨_, E_, by first | exact Kd.R_nil _ _ _ _ _ | exact Kd.N_nil _ _ _ _ _ | exact Kd.V_nil _ _ _ _ _ | exact Kd.Q_nil _ _ _ _ _ | exact Kd.S_nil _ _ _ _ _, B_⟩

/-! ### keystonelaw3_says: function 23 -/
mutual
def keystonelaw3_says.j0 : Nat → List (S50) → Int → Bool → Option (Bool)
  | 0, _, _, _ => none
  | k + 1, x0, x1, x38 => if x38 = true then (some false) else ((pool_Number.f k x0 x1).bind fun bt566 => ((keystoneref3_Number.f k x0 x1).bind fun bt568 => (if bt566.1 = bt568.1 then (keystonelaw3_says.j1 k x0 x1 (bt566.2 != bt568.2)) else (keystonelaw3_says.j1 k x0 x1 true))))
def keystonelaw3_says.j1 : Nat → List (S50) → Int → Bool → Option (Bool)
  | 0, _, _, _ => none
  | k + 1, x0, x1, x58 => if x58 = true then (some false) else ((pool_Class.f k x0 x1).bind fun bt570 => ((keystoneref3_Class.f k x0 x1).bind fun bt572 => (if bt570.1.toList = bt572.1.toList then (keystonelaw3_says.j2 k x0 x1 (bt570.2 != bt572.2)) else (keystonelaw3_says.j2 k x0 x1 true))))
def keystonelaw3_says.j2 : Nat → List (S50) → Int → Bool → Option (Bool)
  | 0, _, _, _ => none
  | k + 1, x0, x1, x78 => if x78 = true then (some false) else ((pool_Type.f k x0 x1).bind fun bt574 => ((keystoneref3_Type.f k x0 x1).bind fun bt578 => (if (!(bt574.1 == bt578.1) || (!(bt574.2.1.toList == bt578.2.1.toList))) = true then (keystonelaw3_says.j3 k x0 x1 true) else (keystonelaw3_says.j3 k x0 x1 (bt574.2.2 != bt578.2.2)))))
def keystonelaw3_says.j3 : Nat → List (S50) → Int → Bool → Option (Bool)
  | 0, _, _, _ => none
  | k + 1, x0, x1, x98 => if x98 = true then (some false) else ((pool_Field.f k x0 x1).bind fun bt582 => ((keystoneref3_Field.f k x0 x1).bind fun bt587 => (if bt582.1.toList = bt587.1.toList then (if bt582.2.1.toList = bt587.2.1.toList then (if (!(bt582.2.2.1 == bt587.2.2.1) || (!(bt582.2.2.2.1.toList == bt587.2.2.2.1.toList))) = true then (keystonelaw3_says.j4 k x0 x1 true) else (keystonelaw3_says.j4 k x0 x1 (bt582.2.2.2.2 != bt587.2.2.2.2))) else (keystonelaw3_says.j4 k x0 x1 true)) else (keystonelaw3_says.j4 k x0 x1 true))))
def keystonelaw3_says.j4 : Nat → List (S50) → Int → Bool → Option (Bool)
  | 0, _, _, _ => none
  | k + 1, x0, x1, x132 => if x132 = true then (some false) else ((pool_Method.f k x0 x1).bind fun bt592 => ((keystoneref3_Method.f k x0 x1).bind fun bt602 => (if bt592.1.toList = bt602.1.toList then (if bt592.2.1.toList = bt602.2.1.toList then ((keystoneref2_Same.f k bt592.2.2.1 bt592.2.2.2.1 bt592.2.2.2.2.1 bt592.2.2.2.2.2.1 bt602.2.2.1 bt602.2.2.2.1 bt602.2.2.2.2.1 bt602.2.2.2.2.2.1).bind fun t612 => (if t612 = true then (some (bt592.2.2.2.2.2.2 == bt602.2.2.2.2.2.2)) else (some false))) else (some false)) else (some false))))
end
def keystonelaw3_says.f (k : Nat) (l0 : List (S50)) (a1 : Int) : Option (Bool) := (pool_Text.f k l0 a1).bind fun bt562 => ((keystoneref3_Text.f k l0 a1).bind fun bt564 => (if bt562.1.toList = bt564.1.toList then (keystonelaw3_says.j0 k l0 a1 (bt562.2 != bt564.2)) else (keystonelaw3_says.j0 k l0 a1 true)))
theorem keystonelaw3_says.mono_l : ∀ k, (∀ y0 y1 y2, LeO (keystonelaw3_says.j0 k y0 y1 y2) (keystonelaw3_says.j0 (k + 1) y0 y1 y2)) ∧ (∀ y0 y1 y2, LeO (keystonelaw3_says.j1 k y0 y1 y2) (keystonelaw3_says.j1 (k + 1) y0 y1 y2)) ∧ (∀ y0 y1 y2, LeO (keystonelaw3_says.j2 k y0 y1 y2) (keystonelaw3_says.j2 (k + 1) y0 y1 y2)) ∧ (∀ y0 y1 y2, LeO (keystonelaw3_says.j3 k y0 y1 y2) (keystonelaw3_says.j3 (k + 1) y0 y1 y2)) ∧ (∀ y0 y1 y2, LeO (keystonelaw3_says.j4 k y0 y1 y2) (keystonelaw3_says.j4 (k + 1) y0 y1 y2))
  | 0 => ⟨fun _ _ _ r h => by simp [keystonelaw3_says.j0] at h, fun _ _ _ r h => by simp [keystonelaw3_says.j1] at h, fun _ _ _ r h => by simp [keystonelaw3_says.j2] at h, fun _ _ _ r h => by simp [keystonelaw3_says.j3] at h, fun _ _ _ r h => by simp [keystonelaw3_says.j4] at h⟩
  | k + 1 => by
    obtain ⟨ih0, ih1, ih2, ih3, ih4⟩ := keystonelaw3_says.mono_l k
    refine ⟨?_, ?_, ?_, ?_, ?_⟩
    · intro y0 y1 y2
      unfold keystonelaw3_says.j0
      repeat' first
      | (with_reducible exact ih0 _ _ _)
      | (with_reducible exact ih1 _ _ _)
      | (with_reducible exact ih2 _ _ _)
      | (with_reducible exact ih3 _ _ _)
      | (with_reducible exact ih4 _ _ _)
      | (with_reducible exact keystoneref2_Same.mono _ _ _ _ _ _ _ _ _)
      | (with_reducible exact keystoneref3_Class.mono _ _ _)
      | (with_reducible exact keystoneref3_Field.mono _ _ _)
      | (with_reducible exact keystoneref3_Method.mono _ _ _)
      | (with_reducible exact keystoneref3_Number.mono _ _ _)
      | (with_reducible exact keystoneref3_Text.mono _ _ _)
      | (with_reducible exact keystoneref3_Type.mono _ _ _)
      | (with_reducible exact pool_Class.mono _ _ _)
      | (with_reducible exact pool_Field.mono _ _ _)
      | (with_reducible exact pool_Method.mono _ _ _)
      | (with_reducible exact pool_Number.mono _ _ _)
      | (with_reducible exact pool_Text.mono _ _ _)
      | (with_reducible exact pool_Type.mono _ _ _)
      | (with_reducible exact LeO.refl _)
      | (with_reducible exact LeO.none _)
      | (with_reducible refine LeO.ite ?_ ?_)
      | (with_reducible refine LeO.bind ?_ (fun _ => ?_))
      | exact ih0 _ _ _
      | exact ih1 _ _ _
      | exact ih2 _ _ _
      | exact ih3 _ _ _
      | exact ih4 _ _ _
      | exact keystoneref2_Same.mono _ _ _ _ _ _ _ _ _
      | exact keystoneref3_Class.mono _ _ _
      | exact keystoneref3_Field.mono _ _ _
      | exact keystoneref3_Method.mono _ _ _
      | exact keystoneref3_Number.mono _ _ _
      | exact keystoneref3_Text.mono _ _ _
      | exact keystoneref3_Type.mono _ _ _
      | exact pool_Class.mono _ _ _
      | exact pool_Field.mono _ _ _
      | exact pool_Method.mono _ _ _
      | exact pool_Number.mono _ _ _
      | exact pool_Text.mono _ _ _
      | exact pool_Type.mono _ _ _
      | exact LeO.none _
      | refine LeO.ite ?_ ?_
      | refine LeO.bind ?_ (fun _ => ?_)
    · intro y0 y1 y2
      unfold keystonelaw3_says.j1
      repeat' first
      | (with_reducible exact ih0 _ _ _)
      | (with_reducible exact ih1 _ _ _)
      | (with_reducible exact ih2 _ _ _)
      | (with_reducible exact ih3 _ _ _)
      | (with_reducible exact ih4 _ _ _)
      | (with_reducible exact keystoneref2_Same.mono _ _ _ _ _ _ _ _ _)
      | (with_reducible exact keystoneref3_Class.mono _ _ _)
      | (with_reducible exact keystoneref3_Field.mono _ _ _)
      | (with_reducible exact keystoneref3_Method.mono _ _ _)
      | (with_reducible exact keystoneref3_Number.mono _ _ _)
      | (with_reducible exact keystoneref3_Text.mono _ _ _)
      | (with_reducible exact keystoneref3_Type.mono _ _ _)
      | (with_reducible exact pool_Class.mono _ _ _)
      | (with_reducible exact pool_Field.mono _ _ _)
      | (with_reducible exact pool_Method.mono _ _ _)
      | (with_reducible exact pool_Number.mono _ _ _)
      | (with_reducible exact pool_Text.mono _ _ _)
      | (with_reducible exact pool_Type.mono _ _ _)
      | (with_reducible exact LeO.refl _)
      | (with_reducible exact LeO.none _)
      | (with_reducible refine LeO.ite ?_ ?_)
      | (with_reducible refine LeO.bind ?_ (fun _ => ?_))
      | exact ih0 _ _ _
      | exact ih1 _ _ _
      | exact ih2 _ _ _
      | exact ih3 _ _ _
      | exact ih4 _ _ _
      | exact keystoneref2_Same.mono _ _ _ _ _ _ _ _ _
      | exact keystoneref3_Class.mono _ _ _
      | exact keystoneref3_Field.mono _ _ _
      | exact keystoneref3_Method.mono _ _ _
      | exact keystoneref3_Number.mono _ _ _
      | exact keystoneref3_Text.mono _ _ _
      | exact keystoneref3_Type.mono _ _ _
      | exact pool_Class.mono _ _ _
      | exact pool_Field.mono _ _ _
      | exact pool_Method.mono _ _ _
      | exact pool_Number.mono _ _ _
      | exact pool_Text.mono _ _ _
      | exact pool_Type.mono _ _ _
      | exact LeO.none _
      | refine LeO.ite ?_ ?_
      | refine LeO.bind ?_ (fun _ => ?_)
    · intro y0 y1 y2
      unfold keystonelaw3_says.j2
      repeat' first
      | (with_reducible exact ih0 _ _ _)
      | (with_reducible exact ih1 _ _ _)
      | (with_reducible exact ih2 _ _ _)
      | (with_reducible exact ih3 _ _ _)
      | (with_reducible exact ih4 _ _ _)
      | (with_reducible exact keystoneref2_Same.mono _ _ _ _ _ _ _ _ _)
      | (with_reducible exact keystoneref3_Class.mono _ _ _)
      | (with_reducible exact keystoneref3_Field.mono _ _ _)
      | (with_reducible exact keystoneref3_Method.mono _ _ _)
      | (with_reducible exact keystoneref3_Number.mono _ _ _)
      | (with_reducible exact keystoneref3_Text.mono _ _ _)
      | (with_reducible exact keystoneref3_Type.mono _ _ _)
      | (with_reducible exact pool_Class.mono _ _ _)
      | (with_reducible exact pool_Field.mono _ _ _)
      | (with_reducible exact pool_Method.mono _ _ _)
      | (with_reducible exact pool_Number.mono _ _ _)
      | (with_reducible exact pool_Text.mono _ _ _)
      | (with_reducible exact pool_Type.mono _ _ _)
      | (with_reducible exact LeO.refl _)
      | (with_reducible exact LeO.none _)
      | (with_reducible refine LeO.ite ?_ ?_)
      | (with_reducible refine LeO.bind ?_ (fun _ => ?_))
      | exact ih0 _ _ _
      | exact ih1 _ _ _
      | exact ih2 _ _ _
      | exact ih3 _ _ _
      | exact ih4 _ _ _
      | exact keystoneref2_Same.mono _ _ _ _ _ _ _ _ _
      | exact keystoneref3_Class.mono _ _ _
      | exact keystoneref3_Field.mono _ _ _
      | exact keystoneref3_Method.mono _ _ _
      | exact keystoneref3_Number.mono _ _ _
      | exact keystoneref3_Text.mono _ _ _
      | exact keystoneref3_Type.mono _ _ _
      | exact pool_Class.mono _ _ _
      | exact pool_Field.mono _ _ _
      | exact pool_Method.mono _ _ _
      | exact pool_Number.mono _ _ _
      | exact pool_Text.mono _ _ _
      | exact pool_Type.mono _ _ _
      | exact LeO.none _
      | refine LeO.ite ?_ ?_
      | refine LeO.bind ?_ (fun _ => ?_)
    · intro y0 y1 y2
      unfold keystonelaw3_says.j3
      repeat' first
      | (with_reducible exact ih0 _ _ _)
      | (with_reducible exact ih1 _ _ _)
      | (with_reducible exact ih2 _ _ _)
      | (with_reducible exact ih3 _ _ _)
      | (with_reducible exact ih4 _ _ _)
      | (with_reducible exact keystoneref2_Same.mono _ _ _ _ _ _ _ _ _)
      | (with_reducible exact keystoneref3_Class.mono _ _ _)
      | (with_reducible exact keystoneref3_Field.mono _ _ _)
      | (with_reducible exact keystoneref3_Method.mono _ _ _)
      | (with_reducible exact keystoneref3_Number.mono _ _ _)
      | (with_reducible exact keystoneref3_Text.mono _ _ _)
      | (with_reducible exact keystoneref3_Type.mono _ _ _)
      | (with_reducible exact pool_Class.mono _ _ _)
      | (with_reducible exact pool_Field.mono _ _ _)
      | (with_reducible exact pool_Method.mono _ _ _)
      | (with_reducible exact pool_Number.mono _ _ _)
      | (with_reducible exact pool_Text.mono _ _ _)
      | (with_reducible exact pool_Type.mono _ _ _)
      | (with_reducible exact LeO.refl _)
      | (with_reducible exact LeO.none _)
      | (with_reducible refine LeO.ite ?_ ?_)
      | (with_reducible refine LeO.bind ?_ (fun _ => ?_))
      | exact ih0 _ _ _
      | exact ih1 _ _ _
      | exact ih2 _ _ _
      | exact ih3 _ _ _
      | exact ih4 _ _ _
      | exact keystoneref2_Same.mono _ _ _ _ _ _ _ _ _
      | exact keystoneref3_Class.mono _ _ _
      | exact keystoneref3_Field.mono _ _ _
      | exact keystoneref3_Method.mono _ _ _
      | exact keystoneref3_Number.mono _ _ _
      | exact keystoneref3_Text.mono _ _ _
      | exact keystoneref3_Type.mono _ _ _
      | exact pool_Class.mono _ _ _
      | exact pool_Field.mono _ _ _
      | exact pool_Method.mono _ _ _
      | exact pool_Number.mono _ _ _
      | exact pool_Text.mono _ _ _
      | exact pool_Type.mono _ _ _
      | exact LeO.none _
      | refine LeO.ite ?_ ?_
      | refine LeO.bind ?_ (fun _ => ?_)
    · intro y0 y1 y2
      unfold keystonelaw3_says.j4
      repeat' first
      | (with_reducible exact ih0 _ _ _)
      | (with_reducible exact ih1 _ _ _)
      | (with_reducible exact ih2 _ _ _)
      | (with_reducible exact ih3 _ _ _)
      | (with_reducible exact ih4 _ _ _)
      | (with_reducible exact keystoneref2_Same.mono _ _ _ _ _ _ _ _ _)
      | (with_reducible exact keystoneref3_Class.mono _ _ _)
      | (with_reducible exact keystoneref3_Field.mono _ _ _)
      | (with_reducible exact keystoneref3_Method.mono _ _ _)
      | (with_reducible exact keystoneref3_Number.mono _ _ _)
      | (with_reducible exact keystoneref3_Text.mono _ _ _)
      | (with_reducible exact keystoneref3_Type.mono _ _ _)
      | (with_reducible exact pool_Class.mono _ _ _)
      | (with_reducible exact pool_Field.mono _ _ _)
      | (with_reducible exact pool_Method.mono _ _ _)
      | (with_reducible exact pool_Number.mono _ _ _)
      | (with_reducible exact pool_Text.mono _ _ _)
      | (with_reducible exact pool_Type.mono _ _ _)
      | (with_reducible exact LeO.refl _)
      | (with_reducible exact LeO.none _)
      | (with_reducible refine LeO.ite ?_ ?_)
      | (with_reducible refine LeO.bind ?_ (fun _ => ?_))
      | exact ih0 _ _ _
      | exact ih1 _ _ _
      | exact ih2 _ _ _
      | exact ih3 _ _ _
      | exact ih4 _ _ _
      | exact keystoneref2_Same.mono _ _ _ _ _ _ _ _ _
      | exact keystoneref3_Class.mono _ _ _
      | exact keystoneref3_Field.mono _ _ _
      | exact keystoneref3_Method.mono _ _ _
      | exact keystoneref3_Number.mono _ _ _
      | exact keystoneref3_Text.mono _ _ _
      | exact keystoneref3_Type.mono _ _ _
      | exact pool_Class.mono _ _ _
      | exact pool_Field.mono _ _ _
      | exact pool_Method.mono _ _ _
      | exact pool_Number.mono _ _ _
      | exact pool_Text.mono _ _ _
      | exact pool_Type.mono _ _ _
      | exact LeO.none _
      | refine LeO.ite ?_ ?_
      | refine LeO.bind ?_ (fun _ => ?_)
theorem keystonelaw3_says.mono : ∀ a0 a1 k, LeO (keystonelaw3_says.f k a0 a1) (keystonelaw3_says.f (k + 1) a0 a1) := by
  intro a0 a1 k
  obtain ⟨ih0, ih1, ih2, ih3, ih4⟩ := keystonelaw3_says.mono_l k
  unfold keystonelaw3_says.f
  repeat' first
      | (with_reducible exact ih0 _ _ _)
      | (with_reducible exact ih1 _ _ _)
      | (with_reducible exact ih2 _ _ _)
      | (with_reducible exact ih3 _ _ _)
      | (with_reducible exact ih4 _ _ _)
      | (with_reducible exact keystoneref2_Same.mono _ _ _ _ _ _ _ _ _)
      | (with_reducible exact keystoneref3_Class.mono _ _ _)
      | (with_reducible exact keystoneref3_Field.mono _ _ _)
      | (with_reducible exact keystoneref3_Method.mono _ _ _)
      | (with_reducible exact keystoneref3_Number.mono _ _ _)
      | (with_reducible exact keystoneref3_Text.mono _ _ _)
      | (with_reducible exact keystoneref3_Type.mono _ _ _)
      | (with_reducible exact pool_Class.mono _ _ _)
      | (with_reducible exact pool_Field.mono _ _ _)
      | (with_reducible exact pool_Method.mono _ _ _)
      | (with_reducible exact pool_Number.mono _ _ _)
      | (with_reducible exact pool_Text.mono _ _ _)
      | (with_reducible exact pool_Type.mono _ _ _)
      | (with_reducible exact LeO.refl _)
      | (with_reducible exact LeO.none _)
      | (with_reducible refine LeO.ite ?_ ?_)
      | (with_reducible refine LeO.bind ?_ (fun _ => ?_))
      | exact ih0 _ _ _
      | exact ih1 _ _ _
      | exact ih2 _ _ _
      | exact ih3 _ _ _
      | exact ih4 _ _ _
      | exact keystoneref2_Same.mono _ _ _ _ _ _ _ _ _
      | exact keystoneref3_Class.mono _ _ _
      | exact keystoneref3_Field.mono _ _ _
      | exact keystoneref3_Method.mono _ _ _
      | exact keystoneref3_Number.mono _ _ _
      | exact keystoneref3_Text.mono _ _ _
      | exact keystoneref3_Type.mono _ _ _
      | exact pool_Class.mono _ _ _
      | exact pool_Field.mono _ _ _
      | exact pool_Method.mono _ _ _
      | exact pool_Number.mono _ _ _
      | exact pool_Text.mono _ _ _
      | exact pool_Type.mono _ _ _
      | exact LeO.none _
      | refine LeO.ite ?_ ?_
      | refine LeO.bind ?_ (fun _ => ?_)
set_option maxHeartbeats 8000000 in
set_option maxRecDepth 100000 in
theorem keystonelaw3_says.calls (k : Nat) (A0 : Option Addr) (c0 : Nat) (l0 : List (S50)) (a1 : Int) (r : Bool) (w : World) (hr0 : Kd.C k50 w A0 l0.length l0) (hc0 : l0.length ≤ c0) (h : keystonelaw3_says.f k l0 a1 = some r) :
    Calls Tryd.prog 23 #[.slice A0 l0.length c0, .int .i64 a1] w fun e w' => e = .returned (.bool r) ∧ Below w.heap.size w w' := by
  have hu34 := Tryd.underlying34
  have hu39 := Tryd.underlying39
  have HR0 := Aside0.mk hr0
  have HC0 := Aside0.mk hc0
  clear hr0 hc0
  have HB := Aside0.mk (Below.refl w.heap.size w)
  have H : ((pool_Text.f k l0 a1).bind fun bt562 => ((keystoneref3_Text.f k l0 a1).bind fun bt564 => (if bt562.1.toList = bt564.1.toList then (keystonelaw3_says.j0 k l0 a1 (bt562.2 != bt564.2)) else (keystonelaw3_says.j0 k l0 a1 true)))) = some r := h
  clear h
  replace H := Option.bind_eq_some_iff.mp H
  obtain ⟨⟨t562, t563⟩, A30, H⟩ := H
  replace H : ((keystoneref3_Text.f k l0 a1).bind fun bt564 => (if t562.toList = bt564.1.toList then (keystonelaw3_says.j0 k l0 a1 (t563 != bt564.2)) else (keystonelaw3_says.j0 k l0 a1 true))) = some r := H
  have A3 := Aside0.mk A30
  clear A30
  replace H := Option.bind_eq_some_iff.mp H
  obtain ⟨⟨t564, t565⟩, A40, H⟩ := H
  replace H : (if t562.toList = t564.toList then (keystonelaw3_says.j0 k l0 a1 (t563 != t565)) else (keystonelaw3_says.j0 k l0 a1 true)) = some r := H
  have A4 := Aside0.mk A40
  clear A40
  have HC5 := Aside0.mk H
  clear H
  go_enter Tryd.func23, Tryd.ntmps23
  go_upto_region 3 with (first | ((with_reducible refine gt_ 18 ?_); refine gc_ 22 Tryd.func18 #[.slice A0 l0.length c0, .int .i64 a1] ?_; (with_reducible refine (pool_Text.calls k _ _ l0 a1 t562 t563 _ ?side1 ?side2 A3.out).mono ?_); (case side1 => exact Y_ HR0.out); (case side2 => exact HC0.out); rintro e w6 ⟨rfl, hb⟩; refine ⟨_, rfl, ?_⟩; have n0_ := Aside0.mk (below_step B_ hb); clear HB; have HB := n0_; clear n0_; (try clear hb); (try clear hb2); (try clear hk); (try clear hi)) | ((with_reducible refine gt_ 44 ?_); refine gc_ 28 Tryd.func44 #[.slice A0 l0.length c0, .int .i64 a1] ?_; (with_reducible refine (keystoneref3_Text.calls k _ _ l0 a1 t564 t565 _ ?side1 ?side2 A4.out).mono ?_); (case side1 => exact Y_ (Kd.C_below HR0.out HB.out)); (case side2 => exact HC0.out); rintro e w7 ⟨rfl, hb⟩; refine ⟨_, rfl, ?_⟩; have n0_ := Aside0.mk (below_step B_ hb); clear HB; have HB := n0_; clear n0_; (try clear hb); (try clear hb2); (try clear hk); (try clear hi)))
  (try simp only [Act.put, List.setIfInBounds_toArray, List.set_cons_zero, List.set_cons_succ])
  go_cut [38] (fun v38 wc => ∃ (kq : Nat) (x38_4 : Bool), v38 = .bool x38_4 ∧ Aside0 (keystonelaw3_says.j0 kq l0 a1 x38_4 = some r) ∧ Aside0 (kq ≤ k) ∧ Aside0 (Below w.heap.size w wc))
  case first =>
    have H := HC5.out
    clear HC5
    by_cases c8 : t562.toList = t564.toList
    · rw [if_pos c8] at H
      have c8b0 : (t562.toList == t564.toList) = true := beq_iff_eq.mpr c8
      have c8b1 : (t562.toList != t564.toList) = false := bne_eq_false_iff_eq.mpr c8
      clear c8
      (first | rw [c8b0] | (simp only [i64_w, i32_w]; rw [c8b0]) | skip)
      have H' := Aside0.mk H
      clear H
      go_wp2
      go_meet
      case rel => exact ⟨_, ((t563 != t565)), R_, H', ⟨by first | omega | exact Nat.le_refl _⟩, ⟨B_⟩⟩
    · rw [if_neg c8] at H
      have c8b0 : (t562.toList == t564.toList) = false := beq_eq_false_iff_ne.mpr c8
      have c8b1 : (t562.toList != t564.toList) = true := bne_iff_ne.mpr c8
      (first | rw [c8b0] | (simp only [i64_w, i32_w]; rw [c8b0]) | skip)
      have H' := Aside0.mk H
      clear H
      go_wp2
      go_meet
      case rel => exact ⟨_, (true), R_, H', ⟨by first | omega | exact Nat.le_refl _⟩, ⟨B_⟩⟩
  case rest =>
    clear HC5
    try clear c1
    try clear c2
    try clear p2
    try clear c4
    try clear c8
    try clear c8b0
    try clear c8b1
    obtain ⟨kq, x38_4, rfl, HA, HJ4, HB⟩ := hcut
    cases kq with
    | zero => exact absurd HA.out (by simp [keystonelaw3_says.j0])
    | succ kj4 =>
      have H := HA.out
      clear HA
      simp only [keystonelaw3_says.j0] at H
      by_cases c9 : x38_4 = true
      · subst c9
        have H1 : (some false) = some r := by rw [if_pos rfl] at H; exact H
        clear H
        have H := H1
        clear H1
        obtain rfl := Option.some.inj H
        go_wp2
        go_ret
        exact ⟨E_, B_⟩
      · replace c9 := Bool.eq_false_iff.mpr c9
        subst c9
        have H1 : ((pool_Number.f kj4 l0 a1).bind fun bt566 => ((keystoneref3_Number.f kj4 l0 a1).bind fun bt568 => (if bt566.1 = bt568.1 then (keystonelaw3_says.j1 kj4 l0 a1 (bt566.2 != bt568.2)) else (keystonelaw3_says.j1 kj4 l0 a1 true)))) = some r := by rw [if_neg (show ¬ (false = true) by decide)] at H; exact H
        clear H
        have H := H1
        clear H1
        replace H := Option.bind_eq_some_iff.mp H
        obtain ⟨⟨t566, t567⟩, A100, H⟩ := H
        replace H : ((keystoneref3_Number.f kj4 l0 a1).bind fun bt568 => (if t566 = bt568.1 then (keystonelaw3_says.j1 kj4 l0 a1 (t567 != bt568.2)) else (keystonelaw3_says.j1 kj4 l0 a1 true))) = some r := H
        have A10 := Aside0.mk A100
        clear A100
        replace H := Option.bind_eq_some_iff.mp H
        obtain ⟨⟨t568, t569⟩, A110, H⟩ := H
        replace H : (if t566 = t568 then (keystonelaw3_says.j1 kj4 l0 a1 (t567 != t569)) else (keystonelaw3_says.j1 kj4 l0 a1 true)) = some r := H
        have A11 := Aside0.mk A110
        clear A110
        have HC12 := Aside0.mk H
        clear H
        go_upto_region 7 with (first | ((with_reducible refine gt_ 24 ?_); refine gc_ 42 Tryd.func24 #[.slice A0 l0.length c0, .int .i64 a1] ?_; (with_reducible refine (pool_Number.calls kj4 _ _ l0 a1 t566 t567 _ ?side1 ?side2 A10.out).mono ?_); (case side1 => exact Y_ (Kd.C_below HR0.out HB.out)); (case side2 => exact HC0.out); rintro e w13 ⟨rfl, hb⟩; refine ⟨_, rfl, ?_⟩; have n0_ := Aside0.mk (below_step B_ hb); clear HB; have HB := n0_; clear n0_; (try clear hb); (try clear hb2); (try clear hk); (try clear hi)) | ((with_reducible refine gt_ 45 ?_); refine gc_ 48 Tryd.func45 #[.slice A0 l0.length c0, .int .i64 a1] ?_; (with_reducible refine (keystoneref3_Number.calls kj4 _ _ l0 a1 t568 t569 _ ?side1 ?side2 A11.out).mono ?_); (case side1 => exact Y_ (Kd.C_below HR0.out HB.out)); (case side2 => exact HC0.out); rintro e w14 ⟨rfl, hb⟩; refine ⟨_, rfl, ?_⟩; have n0_ := Aside0.mk (below_step B_ hb); clear HB; have HB := n0_; clear n0_; (try clear hb); (try clear hb2); (try clear hk); (try clear hi)))
        (try simp only [Act.put, List.setIfInBounds_toArray, List.set_cons_zero, List.set_cons_succ])
        go_cut [58] (fun v58 wc => ∃ (kq : Nat) (x58_11 : Bool), v58 = .bool x58_11 ∧ Aside0 (keystonelaw3_says.j1 kq l0 a1 x58_11 = some r) ∧ Aside0 (kq ≤ kj4) ∧ Aside0 (Below w.heap.size w wc))
        case first =>
          have H := HC12.out
          clear HC12
          by_cases c15 : t566 = t568
          · rw [if_pos c15] at H
            have c15b0 : (t566 == t568) = true := beq_iff_eq.mpr c15
            have c15b1 : (t566 != t568) = false := bne_eq_false_iff_eq.mpr c15
            clear c15
            (first | rw [c15b0] | (simp only [i64_w, i32_w]; rw [c15b0]) | skip)
            have H' := Aside0.mk H
            clear H
            go_wp2
            go_meet
            case rel => exact ⟨_, ((t567 != t569)), R_, H', ⟨by have := HJ4.out; first | omega | exact Nat.le_refl _⟩, ⟨B_⟩⟩
          · rw [if_neg c15] at H
            have c15b0 : (t566 == t568) = false := beq_eq_false_iff_ne.mpr c15
            have c15b1 : (t566 != t568) = true := bne_iff_ne.mpr c15
            (first | rw [c15b0] | (simp only [i64_w, i32_w]; rw [c15b0]) | skip)
            have H' := Aside0.mk H
            clear H
            go_wp2
            go_meet
            case rel => exact ⟨_, (true), R_, H', ⟨by have := HJ4.out; first | omega | exact Nat.le_refl _⟩, ⟨B_⟩⟩
        case rest =>
          clear HC12
          try clear c1
          try clear c2
          try clear p2
          try clear c4
          try clear c8
          try clear c8b0
          try clear c8b1
          try clear c9
          try clear c15
          try clear c15b0
          try clear c15b1
          try clear p2
          obtain ⟨kq, x58_11, rfl, HA, HJ11, HB⟩ := hcut
          cases kq with
          | zero => exact absurd HA.out (by simp [keystonelaw3_says.j1])
          | succ kj11 =>
            have H := HA.out
            clear HA
            simp only [keystonelaw3_says.j1] at H
            by_cases c16 : x58_11 = true
            · subst c16
              have H1 : (some false) = some r := by rw [if_pos rfl] at H; exact H
              clear H
              have H := H1
              clear H1
              obtain rfl := Option.some.inj H
              go_wp2
              go_ret
              exact ⟨E_, B_⟩
            · replace c16 := Bool.eq_false_iff.mpr c16
              subst c16
              have H1 : ((pool_Class.f kj11 l0 a1).bind fun bt570 => ((keystoneref3_Class.f kj11 l0 a1).bind fun bt572 => (if bt570.1.toList = bt572.1.toList then (keystonelaw3_says.j2 kj11 l0 a1 (bt570.2 != bt572.2)) else (keystonelaw3_says.j2 kj11 l0 a1 true)))) = some r := by rw [if_neg (show ¬ (false = true) by decide)] at H; exact H
              clear H
              have H := H1
              clear H1
              replace H := Option.bind_eq_some_iff.mp H
              obtain ⟨⟨t570, t571⟩, A170, H⟩ := H
              replace H : ((keystoneref3_Class.f kj11 l0 a1).bind fun bt572 => (if t570.toList = bt572.1.toList then (keystonelaw3_says.j2 kj11 l0 a1 (t571 != bt572.2)) else (keystonelaw3_says.j2 kj11 l0 a1 true))) = some r := H
              have A17 := Aside0.mk A170
              clear A170
              replace H := Option.bind_eq_some_iff.mp H
              obtain ⟨⟨t572, t573⟩, A180, H⟩ := H
              replace H : (if t570.toList = t572.toList then (keystonelaw3_says.j2 kj11 l0 a1 (t571 != t573)) else (keystonelaw3_says.j2 kj11 l0 a1 true)) = some r := H
              have A18 := Aside0.mk A180
              clear A180
              have HC19 := Aside0.mk H
              clear H
              go_upto_region 11 with (first | ((with_reducible refine gt_ 19 ?_); refine gc_ 62 Tryd.func19 #[.slice A0 l0.length c0, .int .i64 a1] ?_; (with_reducible refine (pool_Class.calls kj11 _ _ l0 a1 t570 t571 _ ?side1 ?side2 A17.out).mono ?_); (case side1 => exact Y_ (Kd.C_below HR0.out HB.out)); (case side2 => exact HC0.out); rintro e w20 ⟨rfl, hb⟩; refine ⟨_, rfl, ?_⟩; have n0_ := Aside0.mk (below_step B_ hb); clear HB; have HB := n0_; clear n0_; (try clear hb); (try clear hb2); (try clear hk); (try clear hi)) | ((with_reducible refine gt_ 46 ?_); refine gc_ 68 Tryd.func46 #[.slice A0 l0.length c0, .int .i64 a1] ?_; (with_reducible refine (keystoneref3_Class.calls kj11 _ _ l0 a1 t572 t573 _ ?side1 ?side2 A18.out).mono ?_); (case side1 => exact Y_ (Kd.C_below HR0.out HB.out)); (case side2 => exact HC0.out); rintro e w21 ⟨rfl, hb⟩; refine ⟨_, rfl, ?_⟩; have n0_ := Aside0.mk (below_step B_ hb); clear HB; have HB := n0_; clear n0_; (try clear hb); (try clear hb2); (try clear hk); (try clear hi)))
              (try simp only [Act.put, List.setIfInBounds_toArray, List.set_cons_zero, List.set_cons_succ])
              go_cut [78] (fun v78 wc => ∃ (kq : Nat) (x78_18 : Bool), v78 = .bool x78_18 ∧ Aside0 (keystonelaw3_says.j2 kq l0 a1 x78_18 = some r) ∧ Aside0 (kq ≤ kj11) ∧ Aside0 (Below w.heap.size w wc))
              case first =>
                have H := HC19.out
                clear HC19
                by_cases c22 : t570.toList = t572.toList
                · rw [if_pos c22] at H
                  have c22b0 : (t570.toList == t572.toList) = true := beq_iff_eq.mpr c22
                  have c22b1 : (t570.toList != t572.toList) = false := bne_eq_false_iff_eq.mpr c22
                  clear c22
                  (first | rw [c22b0] | (simp only [i64_w, i32_w]; rw [c22b0]) | skip)
                  have H' := Aside0.mk H
                  clear H
                  go_wp2
                  go_meet
                  case rel => exact ⟨_, ((t571 != t573)), R_, H', ⟨by have := HJ4.out; have := HJ11.out; first | omega | exact Nat.le_refl _⟩, ⟨B_⟩⟩
                · rw [if_neg c22] at H
                  have c22b0 : (t570.toList == t572.toList) = false := beq_eq_false_iff_ne.mpr c22
                  have c22b1 : (t570.toList != t572.toList) = true := bne_iff_ne.mpr c22
                  (first | rw [c22b0] | (simp only [i64_w, i32_w]; rw [c22b0]) | skip)
                  have H' := Aside0.mk H
                  clear H
                  go_wp2
                  go_meet
                  case rel => exact ⟨_, (true), R_, H', ⟨by have := HJ4.out; have := HJ11.out; first | omega | exact Nat.le_refl _⟩, ⟨B_⟩⟩
              case rest =>
                clear HC19
                try clear c1
                try clear c2
                try clear p2
                try clear c4
                try clear c8
                try clear c8b0
                try clear c8b1
                try clear c9
                try clear c15
                try clear c15b0
                try clear c15b1
                try clear c16
                try clear c18
                try clear c19
                try clear c22
                try clear c22b0
                try clear c22b1
                try clear p2
                obtain ⟨kq, x78_18, rfl, HA, HJ18, HB⟩ := hcut
                cases kq with
                | zero => exact absurd HA.out (by simp [keystonelaw3_says.j2])
                | succ kj18 =>
                  have H := HA.out
                  clear HA
                  simp only [keystonelaw3_says.j2] at H
                  by_cases c23 : x78_18 = true
                  · subst c23
                    have H1 : (some false) = some r := by rw [if_pos rfl] at H; exact H
                    clear H
                    have H := H1
                    clear H1
                    obtain rfl := Option.some.inj H
                    go_wp2
                    go_ret
                    exact ⟨E_, B_⟩
                  · replace c23 := Bool.eq_false_iff.mpr c23
                    subst c23
                    have H1 : ((pool_Type.f kj18 l0 a1).bind fun bt574 => ((keystoneref3_Type.f kj18 l0 a1).bind fun bt578 => (if (!(bt574.1 == bt578.1) || (!(bt574.2.1.toList == bt578.2.1.toList))) = true then (keystonelaw3_says.j3 kj18 l0 a1 true) else (keystonelaw3_says.j3 kj18 l0 a1 (bt574.2.2 != bt578.2.2))))) = some r := by rw [if_neg (show ¬ (false = true) by decide)] at H; exact H
                    clear H
                    have H := H1
                    clear H1
                    replace H := Option.bind_eq_some_iff.mp H
                    obtain ⟨⟨t574, t575, t576⟩, A240, H⟩ := H
                    replace H : ((keystoneref3_Type.f kj18 l0 a1).bind fun bt578 => (if (!(t574 == bt578.1) || (!(t575.toList == bt578.2.1.toList))) = true then (keystonelaw3_says.j3 kj18 l0 a1 true) else (keystonelaw3_says.j3 kj18 l0 a1 (t576 != bt578.2.2)))) = some r := H
                    have A24 := Aside0.mk A240
                    clear A240
                    replace H := Option.bind_eq_some_iff.mp H
                    obtain ⟨⟨t578, t579, t580⟩, A250, H⟩ := H
                    replace H : (if (!(t574 == t578) || (!(t575.toList == t579.toList))) = true then (keystonelaw3_says.j3 kj18 l0 a1 true) else (keystonelaw3_says.j3 kj18 l0 a1 (t576 != t580))) = some r := H
                    have A25 := Aside0.mk A250
                    clear A250
                    have HC26 := Aside0.mk H
                    clear H
                    go_upto_region 15 with (first | ((with_reducible refine gt_ 25 ?_); refine gc_ 82 Tryd.func25 #[.slice A0 l0.length c0, .int .i64 a1] ?_; (with_reducible refine (pool_Type.calls kj18 _ _ l0 a1 t574 t575 t576 _ ?side1 ?side2 A24.out).mono ?_); (case side1 => exact Y_ (Kd.C_below HR0.out HB.out)); (case side2 => exact HC0.out); rintro e w27 ⟨rfl, hb⟩; refine ⟨_, rfl, ?_⟩; have n0_ := Aside0.mk (below_step B_ hb); clear HB; have HB := n0_; clear n0_; (try clear hb); (try clear hb2); (try clear hk); (try clear hi)) | ((with_reducible refine d_ 11 ?_); refine X_ 11 #[.int .i64 0, .string (⟨#[]⟩ : ByteArray)] 34 ?_; intro gb577 hg w28 hbox hb; have n0_ := Aside0.mk (below_step B_ hb); have n1_ := Aside0.mk (hbox); have n2_ := Aside0.mk (s_ hg); have n3_ := Aside0.mk (s_ hg); clear HB; have HB := n0_; have BK577 := n1_; have GW577 := n2_; have GE577 := n3_; clear n0_ n1_ n2_ n3_; clear hb hbox hg; obtain ⟨hcz29_0, hcz29_1, hfz29_0, hfz29_1⟩ := c2_ BK577.out) | ((with_reducible refine gt_ 47 ?_); refine gc_ 88 Tryd.func47 #[.slice A0 l0.length c0, .int .i64 a1] ?_; (with_reducible refine (keystoneref3_Type.calls kj18 _ _ l0 a1 t578 t579 t580 _ ?side1 ?side2 A25.out).mono ?_); (case side1 => exact Kd.C_below HR0.out B_); (case side2 => exact HC0.out); rintro e w30 ⟨rfl, hb⟩; refine ⟨_, rfl, ?_⟩; have n0_ := Aside0.mk (blk_below (g := gb577) (o := .cells #[.int .i64 t574, .string t575] 34 (0, 0)) P_ hb); have n1_ := Aside0.mk (below_step B_ hb); clear BK577; clear HB; have BK577 := n0_; have HB := n1_; clear n0_ n1_; (try clear hb); (try clear hb2); (try clear hk); (try clear hi)) | ((with_reducible refine d_ 12 ?_); refine X_ 12 #[.int .i64 0, .string (⟨#[]⟩ : ByteArray)] 34 ?_; intro gb581 hg w31 hbox hb; have n0_ := Aside0.mk (blk_below (g := gb577) (o := .cells #[.int .i64 t574, .string t575] 34 (0, 0)) M_ hb); have n1_ := Aside0.mk (below_step B_ hb); have n2_ := Aside0.mk (hbox); have n3_ := Aside0.mk (s_ hg); have n4_ := Aside0.mk (s_ hg); have n5_ := Aside0.mk (x_ hg (g := gb577) (o := .cells #[.int .i64 t574, .string t575] 34 (0, 0)) M_); have n6_ := Aside0.mk n5_.out.symm; clear BK577; clear HB; have BK577 := n0_; have HB := n1_; have BK581 := n2_; have GW581 := n3_; have GE581 := n4_; have NB577_581 := n5_; have NB581_577 := n6_; clear n0_ n1_ n2_ n3_ n4_ n5_ n6_; clear hb hbox hg; have hnb32 := NB581_577.out; have hnc32 := NB577_581.out; obtain ⟨hcz33_0, hcz33_1, hfz33_0, hfz33_1⟩ := c2_ BK581.out))
                    (try simp only [Act.put, List.setIfInBounds_toArray, List.set_cons_zero, List.set_cons_succ])
                    go_cut [98] (fun v98 wc => ∃ (kq : Nat) (x98_25 : Bool), v98 = .bool x98_25 ∧ Aside0 (keystonelaw3_says.j3 kq l0 a1 x98_25 = some r) ∧ Aside0 (kq ≤ kj18) ∧ Aside0 (wc.heap[gb577]? = some (.cells #[.int .i64 t574, .string t575] 34 (0, 0))) ∧ Aside0 (wc.heap[gb581]? = some (.cells #[.int .i64 t578, .string t579] 34 (0, 0))) ∧ Aside0 (Below w.heap.size w wc))
                    case first =>
                      have H := HC26.out
                      clear HC26
                      by_cases c34 : (!(t574 == t578) || (!(t575.toList == t579.toList))) = true
                      · rw [if_pos c34] at H
                        have c34b0 : (!(t574 == t578) || (!(t575.toList == t579.toList))) = true := c34
                        clear c34
                        (first | rw [c34b0] | (simp only [i64_w, i32_w]; rw [c34b0]) | skip)
                        have H' := Aside0.mk H
                        clear H
                        have hnb35 := NB577_581.out
                        have hnc35 := NB581_577.out
                        obtain ⟨hcz36_0, hcz36_1, hfz36_0, hfz36_1⟩ := c2_ BK577.out
                        obtain ⟨hcz37_0, hcz37_1, hfz37_0, hfz37_1⟩ := c2_ BK581.out
                        go_wp2
                        go_meet
                        case rel => exact ⟨_, (true), R_, H', ⟨by have := HJ4.out; have := HJ11.out; have := HJ18.out; first | omega | exact Nat.le_refl _⟩, ⟨P_⟩, ⟨P_⟩, ⟨B_⟩⟩
                      · rw [if_neg c34] at H
                        have c34b0 : (!(t574 == t578) || (!(t575.toList == t579.toList))) = false := by simpa using c34
                        clear c34
                        (first | rw [c34b0] | (simp only [i64_w, i32_w]; rw [c34b0]) | skip)
                        have H' := Aside0.mk H
                        clear H
                        have hnb38 := NB577_581.out
                        have hnc38 := NB581_577.out
                        obtain ⟨hcz39_0, hcz39_1, hfz39_0, hfz39_1⟩ := c2_ BK577.out
                        obtain ⟨hcz40_0, hcz40_1, hfz40_0, hfz40_1⟩ := c2_ BK581.out
                        go_wp2
                        go_meet
                        case rel => exact ⟨_, ((t576 != t580)), R_, H', ⟨by have := HJ4.out; have := HJ11.out; have := HJ18.out; first | omega | exact Nat.le_refl _⟩, ⟨P_⟩, ⟨P_⟩, ⟨B_⟩⟩
                    case rest =>
                      clear HC26
                      try clear c1
                      try clear c2
                      try clear p2
                      try clear c3
                      try clear c4
                      try clear c8
                      try clear c8b0
                      try clear c8b1
                      try clear c9
                      try clear c15
                      try clear c15b0
                      try clear c15b1
                      try clear c16
                      try clear c18
                      try clear c19
                      try clear c22
                      try clear c22b0
                      try clear c22b1
                      try clear c23
                      try clear c24
                      try clear c25
                      try clear c32
                      try clear c34
                      try clear c34b0
                      try clear c35
                      try clear c38
                      try clear hcz29_0 hcz29_1 hfz29_0 hfz29_1
                      try clear hcz33_0 hcz33_1 hfz33_0 hfz33_1
                      try clear hcz36_0 hcz36_1 hfz36_0 hfz36_1
                      try clear hcz37_0 hcz37_1 hfz37_0 hfz37_1
                      try clear hcz39_0 hcz39_1 hfz39_0 hfz39_1
                      try clear hcz40_0 hcz40_1 hfz40_0 hfz40_1
                      try clear p2
                      obtain ⟨kq, x98_25, rfl, HA, HJ25, BK577, BK581, HB⟩ := hcut
                      cases kq with
                      | zero => exact absurd HA.out (by simp [keystonelaw3_says.j3])
                      | succ kj25 =>
                        have H := HA.out
                        clear HA
                        simp only [keystonelaw3_says.j3] at H
                        by_cases c41 : x98_25 = true
                        · subst c41
                          have H1 : (some false) = some r := by rw [if_pos rfl] at H; exact H
                          clear H
                          have H := H1
                          clear H1
                          obtain rfl := Option.some.inj H
                          go_wp2
                          go_ret
                          exact ⟨E_, B_⟩
                        · replace c41 := Bool.eq_false_iff.mpr c41
                          subst c41
                          have H1 : ((pool_Field.f kj25 l0 a1).bind fun bt582 => ((keystoneref3_Field.f kj25 l0 a1).bind fun bt587 => (if bt582.1.toList = bt587.1.toList then (if bt582.2.1.toList = bt587.2.1.toList then (if (!(bt582.2.2.1 == bt587.2.2.1) || (!(bt582.2.2.2.1.toList == bt587.2.2.2.1.toList))) = true then (keystonelaw3_says.j4 kj25 l0 a1 true) else (keystonelaw3_says.j4 kj25 l0 a1 (bt582.2.2.2.2 != bt587.2.2.2.2))) else (keystonelaw3_says.j4 kj25 l0 a1 true)) else (keystonelaw3_says.j4 kj25 l0 a1 true)))) = some r := by rw [if_neg (show ¬ (false = true) by decide)] at H; exact H
                          clear H
                          have H := H1
                          clear H1
                          replace H := Option.bind_eq_some_iff.mp H
                          obtain ⟨⟨t582, t583, t584, t585, t586⟩, A420, H⟩ := H
                          replace H : ((keystoneref3_Field.f kj25 l0 a1).bind fun bt587 => (if t582.toList = bt587.1.toList then (if t583.toList = bt587.2.1.toList then (if (!(t584 == bt587.2.2.1) || (!(t585.toList == bt587.2.2.2.1.toList))) = true then (keystonelaw3_says.j4 kj25 l0 a1 true) else (keystonelaw3_says.j4 kj25 l0 a1 (t586 != bt587.2.2.2.2))) else (keystonelaw3_says.j4 kj25 l0 a1 true)) else (keystonelaw3_says.j4 kj25 l0 a1 true))) = some r := H
                          have A42 := Aside0.mk A420
                          clear A420
                          replace H := Option.bind_eq_some_iff.mp H
                          obtain ⟨⟨t587, t588, t589, t590, t591⟩, A430, H⟩ := H
                          replace H : (if t582.toList = t587.toList then (if t583.toList = t588.toList then (if (!(t584 == t589) || (!(t585.toList == t590.toList))) = true then (keystonelaw3_says.j4 kj25 l0 a1 true) else (keystonelaw3_says.j4 kj25 l0 a1 (t586 != t591))) else (keystonelaw3_says.j4 kj25 l0 a1 true)) else (keystonelaw3_says.j4 kj25 l0 a1 true)) = some r := H
                          have A43 := Aside0.mk A430
                          clear A430
                          have HC44 := Aside0.mk H
                          clear H
                          go_upto_region 19 with (first | ((with_reducible refine gt_ 20 ?_); refine gc_ 102 Tryd.func20 #[.slice A0 l0.length c0, .int .i64 a1] ?_; (with_reducible refine (pool_Field.calls kj25 _ _ l0 a1 t582 t583 t584 t585 t586 _ ?side1 ?side2 A42.out).mono ?_); (case side1 => exact Y_ (Kd.C_below HR0.out HB.out)); (case side2 => exact HC0.out); rintro e w45 ⟨rfl, hb⟩; refine ⟨_, rfl, ?_⟩; have n0_ := Aside0.mk (blk_below (g := gb577) (o := .cells #[.int .i64 t574, .string t575] 34 (0, 0)) M_ hb); have n1_ := Aside0.mk (blk_below (g := gb581) (o := .cells #[.int .i64 t578, .string t579] 34 (0, 0)) M_ hb); have n2_ := Aside0.mk (below_step B_ hb); clear BK577; clear BK581; clear HB; have BK577 := n0_; have BK581 := n1_; have HB := n2_; clear n0_ n1_ n2_; (try clear hb); (try clear hb2); (try clear hk); (try clear hi); have hnb46 := NB577_581.out; have hnc46 := NB581_577.out; obtain ⟨hcz47_0, hcz47_1, hfz47_0, hfz47_1⟩ := c2_ BK577.out) | ((with_reducible refine gt_ 48 ?_); refine gc_ 110 Tryd.func48 #[.slice A0 l0.length c0, .int .i64 a1] ?_; (with_reducible refine (keystoneref3_Field.calls kj25 _ _ l0 a1 t587 t588 t589 t590 t591 _ ?side1 ?side2 A43.out).mono ?_); (case side1 => exact Kd.C_below HR0.out B_); (case side2 => exact HC0.out); rintro e w48 ⟨rfl, hb⟩; refine ⟨_, rfl, ?_⟩; have n0_ := Aside0.mk (blk_below (g := gb577) (o := .cells #[.int .i64 t584, .string t585] 34 (0, 0)) P_ hb); have n1_ := Aside0.mk (blk_below (g := gb581) (o := .cells #[.int .i64 t578, .string t579] 34 (0, 0)) P_ hb); have n2_ := Aside0.mk (below_step B_ hb); clear BK577; clear BK581; clear HB; have BK577 := n0_; have BK581 := n1_; have HB := n2_; clear n0_ n1_ n2_; (try clear hb); (try clear hb2); (try clear hk); (try clear hi); obtain ⟨hcz49_0, hcz49_1, hfz49_0, hfz49_1⟩ := c2_ BK581.out))
                          (try simp only [Act.put, List.setIfInBounds_toArray, List.set_cons_zero, List.set_cons_succ])
                          go_cut [132] (fun v132 wc => ∃ (kq : Nat) (x132_43 : Bool), v132 = .bool x132_43 ∧ Aside0 (keystonelaw3_says.j4 kq l0 a1 x132_43 = some r) ∧ Aside0 (kq ≤ kj25) ∧ Aside0 (wc.heap[gb577]? = some (.cells #[.int .i64 t584, .string t585] 34 (0, 0))) ∧ Aside0 (wc.heap[gb581]? = some (.cells #[.int .i64 t589, .string t590] 34 (0, 0))) ∧ Aside0 (Below w.heap.size w wc))
                          case first =>
                            have H := HC44.out
                            clear HC44
                            by_cases c50 : t582.toList = t587.toList
                            · rw [if_pos c50] at H
                              have c50b0 : (t582.toList == t587.toList) = true := beq_iff_eq.mpr c50
                              have c50b1 : (t582.toList != t587.toList) = false := bne_eq_false_iff_eq.mpr c50
                              clear c50
                              (first | rw [c50b0] | (simp only [i64_w, i32_w]; rw [c50b0]) | skip)
                              by_cases c51 : t583.toList = t588.toList
                              · rw [if_pos c51] at H
                                have c51b0 : (t583.toList == t588.toList) = true := beq_iff_eq.mpr c51
                                have c51b1 : (t583.toList != t588.toList) = false := bne_eq_false_iff_eq.mpr c51
                                clear c51
                                by_cases c52 : (!(t584 == t589) || (!(t585.toList == t590.toList))) = true
                                · rw [if_pos c52] at H
                                  have c52b0 : (!(t584 == t589) || (!(t585.toList == t590.toList))) = true := c52
                                  clear c52
                                  have H' := Aside0.mk H
                                  clear H
                                  have hnb53 := NB577_581.out
                                  have hnc53 := NB581_577.out
                                  obtain ⟨hcz54_0, hcz54_1, hfz54_0, hfz54_1⟩ := c2_ BK577.out
                                  obtain ⟨hcz55_0, hcz55_1, hfz55_0, hfz55_1⟩ := c2_ BK581.out
                                  go_wp2
                                  go_meet
                                  case rel => exact ⟨_, (true), R_, H', ⟨by have := HJ4.out; have := HJ11.out; have := HJ18.out; have := HJ25.out; first | omega | exact Nat.le_refl _⟩, ⟨P_⟩, ⟨P_⟩, ⟨B_⟩⟩
                                · rw [if_neg c52] at H
                                  have c52b0 : (!(t584 == t589) || (!(t585.toList == t590.toList))) = false := by simpa using c52
                                  clear c52
                                  have H' := Aside0.mk H
                                  clear H
                                  have hnb56 := NB577_581.out
                                  have hnc56 := NB581_577.out
                                  obtain ⟨hcz57_0, hcz57_1, hfz57_0, hfz57_1⟩ := c2_ BK577.out
                                  obtain ⟨hcz58_0, hcz58_1, hfz58_0, hfz58_1⟩ := c2_ BK581.out
                                  go_wp2
                                  go_meet
                                  case rel => exact ⟨_, ((t586 != t591)), R_, H', ⟨by have := HJ4.out; have := HJ11.out; have := HJ18.out; have := HJ25.out; first | omega | exact Nat.le_refl _⟩, ⟨P_⟩, ⟨P_⟩, ⟨B_⟩⟩
                              · rw [if_neg c51] at H
                                have c51b0 : (t583.toList == t588.toList) = false := beq_eq_false_iff_ne.mpr c51
                                have c51b1 : (t583.toList != t588.toList) = true := bne_iff_ne.mpr c51
                                have H' := Aside0.mk H
                                clear H
                                go_wp2
                                go_meet
                                case rel => exact ⟨_, (true), R_, H', ⟨by have := HJ4.out; have := HJ11.out; have := HJ18.out; have := HJ25.out; first | omega | exact Nat.le_refl _⟩, ⟨P_⟩, ⟨P_⟩, ⟨B_⟩⟩
                            · rw [if_neg c50] at H
                              have c50b0 : (t582.toList == t587.toList) = false := beq_eq_false_iff_ne.mpr c50
                              have c50b1 : (t582.toList != t587.toList) = true := bne_iff_ne.mpr c50
                              (first | rw [c50b0] | (simp only [i64_w, i32_w]; rw [c50b0]) | skip)
                              have H' := Aside0.mk H
                              clear H
                              go_wp2
                              go_meet
                              case rel => exact ⟨_, (true), R_, H', ⟨by have := HJ4.out; have := HJ11.out; have := HJ18.out; have := HJ25.out; first | omega | exact Nat.le_refl _⟩, ⟨P_⟩, ⟨P_⟩, ⟨B_⟩⟩
                          case rest =>
                            clear HC44
                            try clear c1
                            try clear c2
                            try clear p2
                            try clear c3
                            try clear c4
                            try clear c5
                            try clear c8
                            try clear c8b0
                            try clear c8b1
                            try clear c9
                            try clear c15
                            try clear c15b0
                            try clear c15b1
                            try clear c16
                            try clear c18
                            try clear c19
                            try clear c20
                            try clear c22
                            try clear c22b0
                            try clear c22b1
                            try clear c23
                            try clear c24
                            try clear c25
                            try clear c32
                            try clear c34
                            try clear c34b0
                            try clear c35
                            try clear c38
                            try clear c41
                            try clear c44
                            try clear c45
                            try clear c46
                            try clear c47
                            try clear c48
                            try clear c50
                            try clear c50b0
                            try clear c50b1
                            try clear c51
                            try clear c51b0
                            try clear c51b1
                            try clear c52
                            try clear c52b0
                            try clear c53
                            try clear c56
                            try clear hcz29_0 hcz29_1 hfz29_0 hfz29_1
                            try clear hcz33_0 hcz33_1 hfz33_0 hfz33_1
                            try clear hcz36_0 hcz36_1 hfz36_0 hfz36_1
                            try clear hcz37_0 hcz37_1 hfz37_0 hfz37_1
                            try clear hcz39_0 hcz39_1 hfz39_0 hfz39_1
                            try clear hcz40_0 hcz40_1 hfz40_0 hfz40_1
                            try clear hcz47_0 hcz47_1 hfz47_0 hfz47_1
                            try clear hcz49_0 hcz49_1 hfz49_0 hfz49_1
                            try clear hcz54_0 hcz54_1 hfz54_0 hfz54_1
                            try clear hcz55_0 hcz55_1 hfz55_0 hfz55_1
                            try clear hcz57_0 hcz57_1 hfz57_0 hfz57_1
                            try clear hcz58_0 hcz58_1 hfz58_0 hfz58_1
                            try clear p2
                            obtain ⟨kq, x132_43, rfl, HA, HJ43, BK577, BK581, HB⟩ := hcut
                            cases kq with
                            | zero => exact absurd HA.out (by simp [keystonelaw3_says.j4])
                            | succ kj43 =>
                              have H := HA.out
                              clear HA
                              simp only [keystonelaw3_says.j4] at H
                              by_cases c59 : x132_43 = true
                              · subst c59
                                have H1 : (some false) = some r := by rw [if_pos rfl] at H; exact H
                                clear H
                                have H := H1
                                clear H1
                                obtain rfl := Option.some.inj H
                                go_wp2
                                go_ret
                                exact ⟨E_, B_⟩
                              · replace c59 := Bool.eq_false_iff.mpr c59
                                subst c59
                                have H1 : ((pool_Method.f kj43 l0 a1).bind fun bt592 => ((keystoneref3_Method.f kj43 l0 a1).bind fun bt602 => (if bt592.1.toList = bt602.1.toList then (if bt592.2.1.toList = bt602.2.1.toList then ((keystoneref2_Same.f kj43 bt592.2.2.1 bt592.2.2.2.1 bt592.2.2.2.2.1 bt592.2.2.2.2.2.1 bt602.2.2.1 bt602.2.2.2.1 bt602.2.2.2.2.1 bt602.2.2.2.2.2.1).bind fun t612 => (if t612 = true then (some (bt592.2.2.2.2.2.2 == bt602.2.2.2.2.2.2)) else (some false))) else (some false)) else (some false)))) = some r := by rw [if_neg (show ¬ (false = true) by decide)] at H; exact H
                                clear H
                                have H := H1
                                clear H1
                                replace H := Option.bind_eq_some_iff.mp H
                                obtain ⟨⟨t592, t593, t594, t597, t598, t599, t600⟩, A600, H⟩ := H
                                replace H : ((keystoneref3_Method.f kj43 l0 a1).bind fun bt602 => (if t592.toList = bt602.1.toList then (if t593.toList = bt602.2.1.toList then ((keystoneref2_Same.f kj43 t594 t597 t598 t599 bt602.2.2.1 bt602.2.2.2.1 bt602.2.2.2.2.1 bt602.2.2.2.2.2.1).bind fun t612 => (if t612 = true then (some (t600 == bt602.2.2.2.2.2.2)) else (some false))) else (some false)) else (some false))) = some r := H
                                have A60 := Aside0.mk A600
                                clear A600
                                replace H := Option.bind_eq_some_iff.mp H
                                obtain ⟨⟨t602, t603, t604, t607, t608, t609, t610⟩, A610, H⟩ := H
                                replace H : (if t592.toList = t602.toList then (if t593.toList = t603.toList then ((keystoneref2_Same.f kj43 t594 t597 t598 t599 t604 t607 t608 t609).bind fun t612 => (if t612 = true then (some (t600 == t610)) else (some false))) else (some false)) else (some false)) = some r := H
                                have A61 := Aside0.mk A610
                                clear A610
                                by_cases c62 : t592.toList = t602.toList
                                · rw [if_pos c62] at H
                                  have c62b0 : (t592.toList == t602.toList) = true := beq_iff_eq.mpr c62
                                  have c62b1 : (t592.toList != t602.toList) = false := bne_eq_false_iff_eq.mpr c62
                                  clear c62
                                  by_cases c63 : t593.toList = t603.toList
                                  · rw [if_pos c63] at H
                                    have c63b0 : (t593.toList == t603.toList) = true := beq_iff_eq.mpr c63
                                    have c63b1 : (t593.toList != t603.toList) = false := bne_eq_false_iff_eq.mpr c63
                                    clear c63
                                    replace H := Option.bind_eq_some_iff.mp H
                                    obtain ⟨t612, A640, H⟩ := H
                                    replace H : (if t612 = true then (some (t600 == t610)) else (some false)) = some r := H
                                    have A64 := Aside0.mk A640
                                    clear A640
                                    by_cases c65 : t612 = true
                                    · subst c65
                                      have H1 : (some (t600 == t610)) = some r := by rw [if_pos rfl] at H; exact H
                                      clear H
                                      have H := H1
                                      clear H1
                                      obtain rfl := Option.some.inj H
                                      go_wp2_with (first | ((with_reducible refine gt_ 21 ?_); refine gc_ 136 Tryd.func21 #[.slice A0 l0.length c0, .int .i64 a1] ?_; (with_reducible refine (pool_Method.calls kj43 _ _ l0 a1 t592 t593 t594 t597 t598 t599 t600 _ ?side1 ?side2 A60.out).mono ?_); (case side1 => exact Y_ (Kd.C_below HR0.out HB.out)); (case side2 => exact HC0.out); rintro e w66 ⟨v595, rfl, ho0, hb⟩; refine ⟨_, rfl, ?_⟩; have n0_ := Aside0.mk (Kd.R_lower (Kd.R_newB (Kd.R_newB ho0 (g := gb577) (o := .cells #[.int .i64 t584, .string t585] 34 (0, 0)) M_) (g := gb581) (o := .cells #[.int .i64 t589, .string t590] 34 (0, 0)) M_) (below_size B_)); have n1_ := Aside0.mk (blk_below (g := gb577) (o := .cells #[.int .i64 t584, .string t585] 34 (0, 0)) M_ hb); have n2_ := Aside0.mk (blk_below (g := gb581) (o := .cells #[.int .i64 t589, .string t590] 34 (0, 0)) M_ hb); have n3_ := Aside0.mk (below_step B_ hb); clear BK577; clear BK581; clear HB; have HO596 := n0_; have BK577 := n1_; have BK581 := n2_; have HB := n3_; clear n0_ n1_ n2_ n3_; (try clear hb); (try clear hb2); (try clear hk); (try clear hi); (try clear ho0)) | ((with_reducible refine d_ 17 ?_); refine X_ 17 #[.slice none 0 0, .bool false, .int .i64 0, .string (⟨#[]⟩ : ByteArray)] 39 ?_; intro gb601 hg w67 hbox hb; have n0_ := Aside0.mk (Kd.R_below (Q_ HO596.out) hb); have n1_ := Aside0.mk (blk_below (g := gb577) (o := .cells #[.int .i64 t584, .string t585] 34 (0, 0)) M_ hb); have n2_ := Aside0.mk (blk_below (g := gb581) (o := .cells #[.int .i64 t589, .string t590] 34 (0, 0)) M_ hb); have n3_ := Aside0.mk (below_step B_ hb); have n4_ := Aside0.mk (hbox); have n5_ := Aside0.mk (s_ hg); have n6_ := Aside0.mk (s_ hg); have n7_ := Aside0.mk (x_ hg (g := gb577) (o := .cells #[.int .i64 t584, .string t585] 34 (0, 0)) M_); have n8_ := Aside0.mk n7_.out.symm; have n9_ := Aside0.mk (x_ hg (g := gb581) (o := .cells #[.int .i64 t589, .string t590] 34 (0, 0)) M_); have n10_ := Aside0.mk n9_.out.symm; clear HO596; clear BK577; clear BK581; clear HB; have HO596 := n0_; have BK577 := n1_; have BK581 := n2_; have HB := n3_; have BK601 := n4_; have GW601 := n5_; have GE601 := n6_; have NB577_601 := n7_; have NB601_577 := n8_; have NB581_601 := n9_; have NB601_581 := n10_; clear n0_ n1_ n2_ n3_ n4_ n5_ n6_ n7_ n8_ n9_ n10_; clear hb hbox hg; obtain ⟨Ao68, co68, eo68⟩ := Kd.R_slice HO596.out; subst eo68; have hnb69 := NB601_577.out; have hnc69 := NB577_601.out; have hnb70 := NB601_581.out; have hnc70 := NB581_601.out; obtain ⟨hcz71_0, hcz71_1, hcz71_2, hcz71_3, hfz71_0, hfz71_1, hfz71_2, hfz71_3⟩ := c4_ BK601.out) | ((with_reducible refine gt_ 49 ?_); refine gc_ 144 Tryd.func49 #[.slice A0 l0.length c0, .int .i64 a1] ?_; (with_reducible refine (keystoneref3_Method.calls kj43 _ _ l0 a1 t602 t603 t604 t607 t608 t609 t610 _ ?side1 ?side2 A61.out).mono ?_); (case side1 => exact Kd.C_below HR0.out B_); (case side2 => exact HC0.out); rintro e w72 ⟨v605, rfl, ho0, hb⟩; refine ⟨_, rfl, ?_⟩; have n0_ := Aside0.mk (Kd.R_elder' (by (with_reducible repeat (first | apply Kd.R_alloc | apply Kd.R_drewN | apply Kd.R_drew)); exact (Kd.R_mono (Kd.R_far (p := ⟨gb601, 3, none⟩) (Kd.R_far (p := ⟨gb601, 2, none⟩) (Kd.R_far (p := ⟨gb601, 1, none⟩) (Kd.R_far (p := ⟨gb601, 0, none⟩) (Kd.R_types HO596.out BK601.out (by decide)) (fun _ hk => hk.2) (.slice Ao68 t594.length co68)) (fun _ hk => hk.2) (.bool t597)) (fun _ hk => hk.2) (.int .i64 t598)) (fun _ hk => hk.2) (.string t599)) (fun _ h_ => h_.1))) (Kd.R_base ho0) hb); have n1_ := Aside0.mk (Kd.R_lower (Kd.R_newB (Kd.R_newB (Kd.R_new' ho0 (Kd.R_lt (by (with_reducible repeat (first | apply Kd.R_alloc | apply Kd.R_drewN | apply Kd.R_drew)); exact (Kd.R_mono (Kd.R_far (p := ⟨gb601, 3, none⟩) (Kd.R_far (p := ⟨gb601, 2, none⟩) (Kd.R_far (p := ⟨gb601, 1, none⟩) (Kd.R_far (p := ⟨gb601, 0, none⟩) (Kd.R_types HO596.out BK601.out (by decide)) (fun _ hk => hk.2) (.slice Ao68 t594.length co68)) (fun _ hk => hk.2) (.bool t597)) (fun _ hk => hk.2) (.int .i64 t598)) (fun _ hk => hk.2) (.string t599)) (fun _ h_ => h_.1))))) (g := gb577) (o := .cells #[.int .i64 t584, .string t585] 34 (0, 0)) P_) (g := gb581) (o := .cells #[.int .i64 t589, .string t590] 34 (0, 0)) P_) (below_size B_)); have n2_ := Aside0.mk (blk_below (g := gb577) (o := .cells #[.int .i64 t584, .string t585] 34 (0, 0)) P_ hb); have n3_ := Aside0.mk (blk_below (g := gb581) (o := .cells #[.int .i64 t589, .string t590] 34 (0, 0)) P_ hb); have n4_ := Aside0.mk (blk_below (g := gb601) (o := .cells #[.slice Ao68 t594.length co68, .bool t597, .int .i64 t598, .string t599] 39 (0, 0)) P_ hb); have n5_ := Aside0.mk (below_step B_ hb); clear HO596; clear BK577; clear BK581; clear BK601; clear HB; have HO596 := n0_; have HO606 := n1_; have BK577 := n2_; have BK581 := n3_; have BK601 := n4_; have HB := n5_; clear n0_ n1_ n2_ n3_ n4_ n5_; (try clear hb); (try clear hb2); (try clear hk); (try clear hi); (try clear ho0)) | ((with_reducible refine d_ 18 ?_); refine X_ 18 #[.slice none 0 0, .bool false, .int .i64 0, .string (⟨#[]⟩ : ByteArray)] 39 ?_; intro gb611 hg w73 hbox hb; have n0_ := Aside0.mk (Kd.R_below (Q_ HO596.out) hb); have n1_ := Aside0.mk (Kd.R_below (Q_ HO606.out) hb); have n2_ := Aside0.mk (blk_below (g := gb577) (o := .cells #[.int .i64 t584, .string t585] 34 (0, 0)) M_ hb); have n3_ := Aside0.mk (blk_below (g := gb581) (o := .cells #[.int .i64 t589, .string t590] 34 (0, 0)) M_ hb); have n4_ := Aside0.mk (blk_below (g := gb601) (o := .cells #[.slice Ao68 t594.length co68, .bool t597, .int .i64 t598, .string t599] 39 (0, 0)) M_ hb); have n5_ := Aside0.mk (below_step B_ hb); have n6_ := Aside0.mk (hbox); have n7_ := Aside0.mk (s_ hg); have n8_ := Aside0.mk (s_ hg); have n9_ := Aside0.mk (x_ hg (g := gb577) (o := .cells #[.int .i64 t584, .string t585] 34 (0, 0)) M_); have n10_ := Aside0.mk n9_.out.symm; have n11_ := Aside0.mk (x_ hg (g := gb581) (o := .cells #[.int .i64 t589, .string t590] 34 (0, 0)) M_); have n12_ := Aside0.mk n11_.out.symm; have n13_ := Aside0.mk (x_ hg (g := gb601) (o := .cells #[.slice Ao68 t594.length co68, .bool t597, .int .i64 t598, .string t599] 39 (0, 0)) M_); have n14_ := Aside0.mk n13_.out.symm; clear HO596; clear HO606; clear BK577; clear BK581; clear BK601; clear HB; have HO596 := n0_; have HO606 := n1_; have BK577 := n2_; have BK581 := n3_; have BK601 := n4_; have HB := n5_; have BK611 := n6_; have GW611 := n7_; have GE611 := n8_; have NB577_611 := n9_; have NB611_577 := n10_; have NB581_611 := n11_; have NB611_581 := n12_; have NB601_611 := n13_; have NB611_601 := n14_; clear n0_ n1_ n2_ n3_ n4_ n5_ n6_ n7_ n8_ n9_ n10_ n11_ n12_ n13_ n14_; clear hb hbox hg; obtain ⟨Ao74, co74, eo74⟩ := Kd.R_slice HO606.out; subst eo74; have hnb75 := NB611_577.out; have hnc75 := NB577_611.out; have hnb76 := NB611_581.out; have hnc76 := NB581_611.out; have hnb77 := NB611_601.out; have hnc77 := NB601_611.out; obtain ⟨hcz78_0, hcz78_1, hcz78_2, hcz78_3, hfz78_0, hfz78_1, hfz78_2, hfz78_3⟩ := c4_ BK611.out; obtain ⟨hcz79_0, hcz79_1, hcz79_2, hcz79_3, hfz79_0, hfz79_1, hfz79_2, hfz79_3⟩ := c4_ BK601.out) | (go_at_call 22; (with_reducible refine (keystoneref2_Same.calls kj43 _ _ t594 t597 t598 t599 _ _ t604 t607 t608 t609 true _ ?side1 ?side2 ?side3 ?side4 A64.out).mono ?_); (case side1 => refine (Kd.R_reads' (e := 34) (base := w.heap.size) (ok := fun k_ => (((True ∧ k_ ≠ gb577) ∧ k_ ≠ gb581) ∧ some k_ ≠ (.slice Ao74 t604.length co74 : Value).ownBlock)) (n := t594.length) (c := co68) ?_).2.2; exact (by (with_reducible repeat (first | apply Kd.R_alloc | apply Kd.R_drewN | apply Kd.R_drew)); exact (Kd.R_mono (Kd.R_far (p := ⟨gb611, 3, none⟩) (Kd.R_far (p := ⟨gb611, 2, none⟩) (Kd.R_far (p := ⟨gb611, 1, none⟩) (Kd.R_far (p := ⟨gb611, 0, none⟩) (Kd.R_types HO596.out BK611.out (by decide)) (fun _ hk => hk.2) (.slice Ao74 t604.length co74)) (fun _ hk => hk.2) (.bool t607)) (fun _ hk => hk.2) (.int .i64 t608)) (fun _ hk => hk.2) (.string t609)) (fun _ h_ => h_.1)))); (case side2 => exact (Kd.R_reads' HO596.out).2.1); (case side3 => refine (Kd.R_reads' (e := 34) (base := w.heap.size) (ok := fun k_ => (((True ∧ some k_ ≠ (.slice Ao68 t594.length co68 : Value).ownBlock) ∧ k_ ≠ gb577) ∧ k_ ≠ gb581)) (n := t604.length) (c := co74) ?_).2.2; exact (by (with_reducible repeat (first | apply Kd.R_alloc | apply Kd.R_drewN | apply Kd.R_drew)); exact (Kd.R_mono (Kd.R_far (p := ⟨gb611, 3, none⟩) (Kd.R_far (p := ⟨gb611, 2, none⟩) (Kd.R_far (p := ⟨gb611, 1, none⟩) (Kd.R_far (p := ⟨gb611, 0, none⟩) (Kd.R_types HO606.out BK611.out (by decide)) (fun _ hk => hk.2) (.slice Ao74 t604.length co74)) (fun _ hk => hk.2) (.bool t607)) (fun _ hk => hk.2) (.int .i64 t608)) (fun _ hk => hk.2) (.string t609)) (fun _ h_ => h_.1)))); (case side4 => exact (Kd.R_reads' HO606.out).2.1); rintro e w80 ⟨rfl, hb⟩; have n0_ := Aside0.mk (Kd.R_below (by (with_reducible repeat (first | apply Kd.R_alloc | apply Kd.R_drewN | apply Kd.R_drew)); exact (Kd.R_mono (Kd.R_far (p := ⟨gb611, 3, none⟩) (Kd.R_far (p := ⟨gb611, 2, none⟩) (Kd.R_far (p := ⟨gb611, 1, none⟩) (Kd.R_far (p := ⟨gb611, 0, none⟩) (Kd.R_types HO596.out BK611.out (by decide)) (fun _ hk => hk.2) (.slice Ao74 t604.length co74)) (fun _ hk => hk.2) (.bool t607)) (fun _ hk => hk.2) (.int .i64 t608)) (fun _ hk => hk.2) (.string t609)) (fun _ h_ => h_.1))) hb); have n1_ := Aside0.mk (Kd.R_below (by (with_reducible repeat (first | apply Kd.R_alloc | apply Kd.R_drewN | apply Kd.R_drew)); exact (Kd.R_mono (Kd.R_far (p := ⟨gb611, 3, none⟩) (Kd.R_far (p := ⟨gb611, 2, none⟩) (Kd.R_far (p := ⟨gb611, 1, none⟩) (Kd.R_far (p := ⟨gb611, 0, none⟩) (Kd.R_types HO606.out BK611.out (by decide)) (fun _ hk => hk.2) (.slice Ao74 t604.length co74)) (fun _ hk => hk.2) (.bool t607)) (fun _ hk => hk.2) (.int .i64 t608)) (fun _ hk => hk.2) (.string t609)) (fun _ h_ => h_.1))) hb); have n2_ := Aside0.mk (blk_below (g := gb577) (o := .cells #[.int .i64 t584, .string t585] 34 (0, 0)) P_ hb); have n3_ := Aside0.mk (blk_below (g := gb581) (o := .cells #[.int .i64 t589, .string t590] 34 (0, 0)) P_ hb); have n4_ := Aside0.mk (blk_below (g := gb601) (o := .cells #[.slice Ao68 t594.length co68, .bool t597, .int .i64 t598, .string t599] 39 (0, 0)) P_ hb); have n5_ := Aside0.mk (blk_below (g := gb611) (o := .cells #[.slice Ao74 t604.length co74, .bool t607, .int .i64 t608, .string t609] 39 (0, 0)) P_ hb); have n6_ := Aside0.mk (below_step B_ hb); clear HO596; clear HO606; clear BK577; clear BK581; clear BK601; clear BK611; clear HB; have HO596 := n0_; have HO606 := n1_; have BK577 := n2_; have BK581 := n3_; have BK601 := n4_; have BK611 := n5_; have HB := n6_; clear n0_ n1_ n2_ n3_ n4_ n5_ n6_; (try clear hb); (try clear hb2); (try clear hk); (try clear hi)))
                                      go_ret
                                      exact ⟨E_, B_⟩
                                    · replace c65 := Bool.eq_false_iff.mpr c65
                                      subst c65
                                      have H1 : (some false) = some r := by rw [if_neg (show ¬ (false = true) by decide)] at H; exact H
                                      clear H
                                      have H := H1
                                      clear H1
                                      obtain rfl := Option.some.inj H
                                      go_wp2_with (first | ((with_reducible refine gt_ 21 ?_); refine gc_ 136 Tryd.func21 #[.slice A0 l0.length c0, .int .i64 a1] ?_; (with_reducible refine (pool_Method.calls kj43 _ _ l0 a1 t592 t593 t594 t597 t598 t599 t600 _ ?side1 ?side2 A60.out).mono ?_); (case side1 => exact Y_ (Kd.C_below HR0.out HB.out)); (case side2 => exact HC0.out); rintro e w81 ⟨v595, rfl, ho0, hb⟩; refine ⟨_, rfl, ?_⟩; have n0_ := Aside0.mk (Kd.R_lower (Kd.R_newB (Kd.R_newB ho0 (g := gb577) (o := .cells #[.int .i64 t584, .string t585] 34 (0, 0)) M_) (g := gb581) (o := .cells #[.int .i64 t589, .string t590] 34 (0, 0)) M_) (below_size B_)); have n1_ := Aside0.mk (blk_below (g := gb577) (o := .cells #[.int .i64 t584, .string t585] 34 (0, 0)) M_ hb); have n2_ := Aside0.mk (blk_below (g := gb581) (o := .cells #[.int .i64 t589, .string t590] 34 (0, 0)) M_ hb); have n3_ := Aside0.mk (below_step B_ hb); clear BK577; clear BK581; clear HB; have HO596 := n0_; have BK577 := n1_; have BK581 := n2_; have HB := n3_; clear n0_ n1_ n2_ n3_; (try clear hb); (try clear hb2); (try clear hk); (try clear hi); (try clear ho0)) | ((with_reducible refine d_ 17 ?_); refine X_ 17 #[.slice none 0 0, .bool false, .int .i64 0, .string (⟨#[]⟩ : ByteArray)] 39 ?_; intro gb601 hg w82 hbox hb; have n0_ := Aside0.mk (Kd.R_below (Q_ HO596.out) hb); have n1_ := Aside0.mk (blk_below (g := gb577) (o := .cells #[.int .i64 t584, .string t585] 34 (0, 0)) M_ hb); have n2_ := Aside0.mk (blk_below (g := gb581) (o := .cells #[.int .i64 t589, .string t590] 34 (0, 0)) M_ hb); have n3_ := Aside0.mk (below_step B_ hb); have n4_ := Aside0.mk (hbox); have n5_ := Aside0.mk (s_ hg); have n6_ := Aside0.mk (s_ hg); have n7_ := Aside0.mk (x_ hg (g := gb577) (o := .cells #[.int .i64 t584, .string t585] 34 (0, 0)) M_); have n8_ := Aside0.mk n7_.out.symm; have n9_ := Aside0.mk (x_ hg (g := gb581) (o := .cells #[.int .i64 t589, .string t590] 34 (0, 0)) M_); have n10_ := Aside0.mk n9_.out.symm; clear HO596; clear BK577; clear BK581; clear HB; have HO596 := n0_; have BK577 := n1_; have BK581 := n2_; have HB := n3_; have BK601 := n4_; have GW601 := n5_; have GE601 := n6_; have NB577_601 := n7_; have NB601_577 := n8_; have NB581_601 := n9_; have NB601_581 := n10_; clear n0_ n1_ n2_ n3_ n4_ n5_ n6_ n7_ n8_ n9_ n10_; clear hb hbox hg; obtain ⟨Ao83, co83, eo83⟩ := Kd.R_slice HO596.out; subst eo83; have hnb84 := NB601_577.out; have hnc84 := NB577_601.out; have hnb85 := NB601_581.out; have hnc85 := NB581_601.out; obtain ⟨hcz86_0, hcz86_1, hcz86_2, hcz86_3, hfz86_0, hfz86_1, hfz86_2, hfz86_3⟩ := c4_ BK601.out) | ((with_reducible refine gt_ 49 ?_); refine gc_ 144 Tryd.func49 #[.slice A0 l0.length c0, .int .i64 a1] ?_; (with_reducible refine (keystoneref3_Method.calls kj43 _ _ l0 a1 t602 t603 t604 t607 t608 t609 t610 _ ?side1 ?side2 A61.out).mono ?_); (case side1 => exact Kd.C_below HR0.out B_); (case side2 => exact HC0.out); rintro e w87 ⟨v605, rfl, ho0, hb⟩; refine ⟨_, rfl, ?_⟩; have n0_ := Aside0.mk (Kd.R_elder' (by (with_reducible repeat (first | apply Kd.R_alloc | apply Kd.R_drewN | apply Kd.R_drew)); exact (Kd.R_mono (Kd.R_far (p := ⟨gb601, 3, none⟩) (Kd.R_far (p := ⟨gb601, 2, none⟩) (Kd.R_far (p := ⟨gb601, 1, none⟩) (Kd.R_far (p := ⟨gb601, 0, none⟩) (Kd.R_types HO596.out BK601.out (by decide)) (fun _ hk => hk.2) (.slice Ao83 t594.length co83)) (fun _ hk => hk.2) (.bool t597)) (fun _ hk => hk.2) (.int .i64 t598)) (fun _ hk => hk.2) (.string t599)) (fun _ h_ => h_.1))) (Kd.R_base ho0) hb); have n1_ := Aside0.mk (Kd.R_lower (Kd.R_newB (Kd.R_newB (Kd.R_new' ho0 (Kd.R_lt (by (with_reducible repeat (first | apply Kd.R_alloc | apply Kd.R_drewN | apply Kd.R_drew)); exact (Kd.R_mono (Kd.R_far (p := ⟨gb601, 3, none⟩) (Kd.R_far (p := ⟨gb601, 2, none⟩) (Kd.R_far (p := ⟨gb601, 1, none⟩) (Kd.R_far (p := ⟨gb601, 0, none⟩) (Kd.R_types HO596.out BK601.out (by decide)) (fun _ hk => hk.2) (.slice Ao83 t594.length co83)) (fun _ hk => hk.2) (.bool t597)) (fun _ hk => hk.2) (.int .i64 t598)) (fun _ hk => hk.2) (.string t599)) (fun _ h_ => h_.1))))) (g := gb577) (o := .cells #[.int .i64 t584, .string t585] 34 (0, 0)) P_) (g := gb581) (o := .cells #[.int .i64 t589, .string t590] 34 (0, 0)) P_) (below_size B_)); have n2_ := Aside0.mk (blk_below (g := gb577) (o := .cells #[.int .i64 t584, .string t585] 34 (0, 0)) P_ hb); have n3_ := Aside0.mk (blk_below (g := gb581) (o := .cells #[.int .i64 t589, .string t590] 34 (0, 0)) P_ hb); have n4_ := Aside0.mk (blk_below (g := gb601) (o := .cells #[.slice Ao83 t594.length co83, .bool t597, .int .i64 t598, .string t599] 39 (0, 0)) P_ hb); have n5_ := Aside0.mk (below_step B_ hb); clear HO596; clear BK577; clear BK581; clear BK601; clear HB; have HO596 := n0_; have HO606 := n1_; have BK577 := n2_; have BK581 := n3_; have BK601 := n4_; have HB := n5_; clear n0_ n1_ n2_ n3_ n4_ n5_; (try clear hb); (try clear hb2); (try clear hk); (try clear hi); (try clear ho0)) | ((with_reducible refine d_ 18 ?_); refine X_ 18 #[.slice none 0 0, .bool false, .int .i64 0, .string (⟨#[]⟩ : ByteArray)] 39 ?_; intro gb611 hg w88 hbox hb; have n0_ := Aside0.mk (Kd.R_below (Q_ HO596.out) hb); have n1_ := Aside0.mk (Kd.R_below (Q_ HO606.out) hb); have n2_ := Aside0.mk (blk_below (g := gb577) (o := .cells #[.int .i64 t584, .string t585] 34 (0, 0)) M_ hb); have n3_ := Aside0.mk (blk_below (g := gb581) (o := .cells #[.int .i64 t589, .string t590] 34 (0, 0)) M_ hb); have n4_ := Aside0.mk (blk_below (g := gb601) (o := .cells #[.slice Ao83 t594.length co83, .bool t597, .int .i64 t598, .string t599] 39 (0, 0)) M_ hb); have n5_ := Aside0.mk (below_step B_ hb); have n6_ := Aside0.mk (hbox); have n7_ := Aside0.mk (s_ hg); have n8_ := Aside0.mk (s_ hg); have n9_ := Aside0.mk (x_ hg (g := gb577) (o := .cells #[.int .i64 t584, .string t585] 34 (0, 0)) M_); have n10_ := Aside0.mk n9_.out.symm; have n11_ := Aside0.mk (x_ hg (g := gb581) (o := .cells #[.int .i64 t589, .string t590] 34 (0, 0)) M_); have n12_ := Aside0.mk n11_.out.symm; have n13_ := Aside0.mk (x_ hg (g := gb601) (o := .cells #[.slice Ao83 t594.length co83, .bool t597, .int .i64 t598, .string t599] 39 (0, 0)) M_); have n14_ := Aside0.mk n13_.out.symm; clear HO596; clear HO606; clear BK577; clear BK581; clear BK601; clear HB; have HO596 := n0_; have HO606 := n1_; have BK577 := n2_; have BK581 := n3_; have BK601 := n4_; have HB := n5_; have BK611 := n6_; have GW611 := n7_; have GE611 := n8_; have NB577_611 := n9_; have NB611_577 := n10_; have NB581_611 := n11_; have NB611_581 := n12_; have NB601_611 := n13_; have NB611_601 := n14_; clear n0_ n1_ n2_ n3_ n4_ n5_ n6_ n7_ n8_ n9_ n10_ n11_ n12_ n13_ n14_; clear hb hbox hg; obtain ⟨Ao89, co89, eo89⟩ := Kd.R_slice HO606.out; subst eo89; have hnb90 := NB611_577.out; have hnc90 := NB577_611.out; have hnb91 := NB611_581.out; have hnc91 := NB581_611.out; have hnb92 := NB611_601.out; have hnc92 := NB601_611.out; obtain ⟨hcz93_0, hcz93_1, hcz93_2, hcz93_3, hfz93_0, hfz93_1, hfz93_2, hfz93_3⟩ := c4_ BK611.out; obtain ⟨hcz94_0, hcz94_1, hcz94_2, hcz94_3, hfz94_0, hfz94_1, hfz94_2, hfz94_3⟩ := c4_ BK601.out) | (go_at_call 22; (with_reducible refine (keystoneref2_Same.calls kj43 _ _ t594 t597 t598 t599 _ _ t604 t607 t608 t609 false _ ?side1 ?side2 ?side3 ?side4 A64.out).mono ?_); (case side1 => refine (Kd.R_reads' (e := 34) (base := w.heap.size) (ok := fun k_ => (((True ∧ k_ ≠ gb577) ∧ k_ ≠ gb581) ∧ some k_ ≠ (.slice Ao89 t604.length co89 : Value).ownBlock)) (n := t594.length) (c := co83) ?_).2.2; exact (by (with_reducible repeat (first | apply Kd.R_alloc | apply Kd.R_drewN | apply Kd.R_drew)); exact (Kd.R_mono (Kd.R_far (p := ⟨gb611, 3, none⟩) (Kd.R_far (p := ⟨gb611, 2, none⟩) (Kd.R_far (p := ⟨gb611, 1, none⟩) (Kd.R_far (p := ⟨gb611, 0, none⟩) (Kd.R_types HO596.out BK611.out (by decide)) (fun _ hk => hk.2) (.slice Ao89 t604.length co89)) (fun _ hk => hk.2) (.bool t607)) (fun _ hk => hk.2) (.int .i64 t608)) (fun _ hk => hk.2) (.string t609)) (fun _ h_ => h_.1)))); (case side2 => exact (Kd.R_reads' HO596.out).2.1); (case side3 => refine (Kd.R_reads' (e := 34) (base := w.heap.size) (ok := fun k_ => (((True ∧ some k_ ≠ (.slice Ao83 t594.length co83 : Value).ownBlock) ∧ k_ ≠ gb577) ∧ k_ ≠ gb581)) (n := t604.length) (c := co89) ?_).2.2; exact (by (with_reducible repeat (first | apply Kd.R_alloc | apply Kd.R_drewN | apply Kd.R_drew)); exact (Kd.R_mono (Kd.R_far (p := ⟨gb611, 3, none⟩) (Kd.R_far (p := ⟨gb611, 2, none⟩) (Kd.R_far (p := ⟨gb611, 1, none⟩) (Kd.R_far (p := ⟨gb611, 0, none⟩) (Kd.R_types HO606.out BK611.out (by decide)) (fun _ hk => hk.2) (.slice Ao89 t604.length co89)) (fun _ hk => hk.2) (.bool t607)) (fun _ hk => hk.2) (.int .i64 t608)) (fun _ hk => hk.2) (.string t609)) (fun _ h_ => h_.1)))); (case side4 => exact (Kd.R_reads' HO606.out).2.1); rintro e w95 ⟨rfl, hb⟩; have n0_ := Aside0.mk (Kd.R_below (by (with_reducible repeat (first | apply Kd.R_alloc | apply Kd.R_drewN | apply Kd.R_drew)); exact (Kd.R_mono (Kd.R_far (p := ⟨gb611, 3, none⟩) (Kd.R_far (p := ⟨gb611, 2, none⟩) (Kd.R_far (p := ⟨gb611, 1, none⟩) (Kd.R_far (p := ⟨gb611, 0, none⟩) (Kd.R_types HO596.out BK611.out (by decide)) (fun _ hk => hk.2) (.slice Ao89 t604.length co89)) (fun _ hk => hk.2) (.bool t607)) (fun _ hk => hk.2) (.int .i64 t608)) (fun _ hk => hk.2) (.string t609)) (fun _ h_ => h_.1))) hb); have n1_ := Aside0.mk (Kd.R_below (by (with_reducible repeat (first | apply Kd.R_alloc | apply Kd.R_drewN | apply Kd.R_drew)); exact (Kd.R_mono (Kd.R_far (p := ⟨gb611, 3, none⟩) (Kd.R_far (p := ⟨gb611, 2, none⟩) (Kd.R_far (p := ⟨gb611, 1, none⟩) (Kd.R_far (p := ⟨gb611, 0, none⟩) (Kd.R_types HO606.out BK611.out (by decide)) (fun _ hk => hk.2) (.slice Ao89 t604.length co89)) (fun _ hk => hk.2) (.bool t607)) (fun _ hk => hk.2) (.int .i64 t608)) (fun _ hk => hk.2) (.string t609)) (fun _ h_ => h_.1))) hb); have n2_ := Aside0.mk (blk_below (g := gb577) (o := .cells #[.int .i64 t584, .string t585] 34 (0, 0)) P_ hb); have n3_ := Aside0.mk (blk_below (g := gb581) (o := .cells #[.int .i64 t589, .string t590] 34 (0, 0)) P_ hb); have n4_ := Aside0.mk (blk_below (g := gb601) (o := .cells #[.slice Ao83 t594.length co83, .bool t597, .int .i64 t598, .string t599] 39 (0, 0)) P_ hb); have n5_ := Aside0.mk (blk_below (g := gb611) (o := .cells #[.slice Ao89 t604.length co89, .bool t607, .int .i64 t608, .string t609] 39 (0, 0)) P_ hb); have n6_ := Aside0.mk (below_step B_ hb); clear HO596; clear HO606; clear BK577; clear BK581; clear BK601; clear BK611; clear HB; have HO596 := n0_; have HO606 := n1_; have BK577 := n2_; have BK581 := n3_; have BK601 := n4_; have BK611 := n5_; have HB := n6_; clear n0_ n1_ n2_ n3_ n4_ n5_ n6_; (try clear hb); (try clear hb2); (try clear hk); (try clear hi)))
                                      go_ret
                                      exact ⟨E_, B_⟩
                                  · rw [if_neg c63] at H
                                    have c63b0 : (t593.toList == t603.toList) = false := beq_eq_false_iff_ne.mpr c63
                                    have c63b1 : (t593.toList != t603.toList) = true := bne_iff_ne.mpr c63
                                    obtain rfl := Option.some.inj H
                                    go_wp2_with (first | ((with_reducible refine gt_ 21 ?_); refine gc_ 136 Tryd.func21 #[.slice A0 l0.length c0, .int .i64 a1] ?_; (with_reducible refine (pool_Method.calls kj43 _ _ l0 a1 t592 t593 t594 t597 t598 t599 t600 _ ?side1 ?side2 A60.out).mono ?_); (case side1 => exact Y_ (Kd.C_below HR0.out HB.out)); (case side2 => exact HC0.out); rintro e w96 ⟨v595, rfl, ho0, hb⟩; refine ⟨_, rfl, ?_⟩; have n0_ := Aside0.mk (Kd.R_lower (Kd.R_newB (Kd.R_newB ho0 (g := gb577) (o := .cells #[.int .i64 t584, .string t585] 34 (0, 0)) M_) (g := gb581) (o := .cells #[.int .i64 t589, .string t590] 34 (0, 0)) M_) (below_size B_)); have n1_ := Aside0.mk (blk_below (g := gb577) (o := .cells #[.int .i64 t584, .string t585] 34 (0, 0)) M_ hb); have n2_ := Aside0.mk (blk_below (g := gb581) (o := .cells #[.int .i64 t589, .string t590] 34 (0, 0)) M_ hb); have n3_ := Aside0.mk (below_step B_ hb); clear BK577; clear BK581; clear HB; have HO596 := n0_; have BK577 := n1_; have BK581 := n2_; have HB := n3_; clear n0_ n1_ n2_ n3_; (try clear hb); (try clear hb2); (try clear hk); (try clear hi); (try clear ho0)) | ((with_reducible refine d_ 17 ?_); refine X_ 17 #[.slice none 0 0, .bool false, .int .i64 0, .string (⟨#[]⟩ : ByteArray)] 39 ?_; intro gb601 hg w97 hbox hb; have n0_ := Aside0.mk (Kd.R_below (Q_ HO596.out) hb); have n1_ := Aside0.mk (blk_below (g := gb577) (o := .cells #[.int .i64 t584, .string t585] 34 (0, 0)) M_ hb); have n2_ := Aside0.mk (blk_below (g := gb581) (o := .cells #[.int .i64 t589, .string t590] 34 (0, 0)) M_ hb); have n3_ := Aside0.mk (below_step B_ hb); have n4_ := Aside0.mk (hbox); have n5_ := Aside0.mk (s_ hg); have n6_ := Aside0.mk (s_ hg); have n7_ := Aside0.mk (x_ hg (g := gb577) (o := .cells #[.int .i64 t584, .string t585] 34 (0, 0)) M_); have n8_ := Aside0.mk n7_.out.symm; have n9_ := Aside0.mk (x_ hg (g := gb581) (o := .cells #[.int .i64 t589, .string t590] 34 (0, 0)) M_); have n10_ := Aside0.mk n9_.out.symm; clear HO596; clear BK577; clear BK581; clear HB; have HO596 := n0_; have BK577 := n1_; have BK581 := n2_; have HB := n3_; have BK601 := n4_; have GW601 := n5_; have GE601 := n6_; have NB577_601 := n7_; have NB601_577 := n8_; have NB581_601 := n9_; have NB601_581 := n10_; clear n0_ n1_ n2_ n3_ n4_ n5_ n6_ n7_ n8_ n9_ n10_; clear hb hbox hg; obtain ⟨Ao98, co98, eo98⟩ := Kd.R_slice HO596.out; subst eo98; have hnb99 := NB601_577.out; have hnc99 := NB577_601.out; have hnb100 := NB601_581.out; have hnc100 := NB581_601.out; obtain ⟨hcz101_0, hcz101_1, hcz101_2, hcz101_3, hfz101_0, hfz101_1, hfz101_2, hfz101_3⟩ := c4_ BK601.out) | ((with_reducible refine gt_ 49 ?_); refine gc_ 144 Tryd.func49 #[.slice A0 l0.length c0, .int .i64 a1] ?_; (with_reducible refine (keystoneref3_Method.calls kj43 _ _ l0 a1 t602 t603 t604 t607 t608 t609 t610 _ ?side1 ?side2 A61.out).mono ?_); (case side1 => exact Kd.C_below HR0.out B_); (case side2 => exact HC0.out); rintro e w102 ⟨v605, rfl, ho0, hb⟩; refine ⟨_, rfl, ?_⟩; have n0_ := Aside0.mk (Kd.R_elder' (by (with_reducible repeat (first | apply Kd.R_alloc | apply Kd.R_drewN | apply Kd.R_drew)); exact (Kd.R_mono (Kd.R_far (p := ⟨gb601, 3, none⟩) (Kd.R_far (p := ⟨gb601, 2, none⟩) (Kd.R_far (p := ⟨gb601, 1, none⟩) (Kd.R_far (p := ⟨gb601, 0, none⟩) (Kd.R_types HO596.out BK601.out (by decide)) (fun _ hk => hk.2) (.slice Ao98 t594.length co98)) (fun _ hk => hk.2) (.bool t597)) (fun _ hk => hk.2) (.int .i64 t598)) (fun _ hk => hk.2) (.string t599)) (fun _ h_ => h_.1))) (Kd.R_base ho0) hb); have n1_ := Aside0.mk (Kd.R_lower (Kd.R_newB (Kd.R_newB (Kd.R_new' ho0 (Kd.R_lt (by (with_reducible repeat (first | apply Kd.R_alloc | apply Kd.R_drewN | apply Kd.R_drew)); exact (Kd.R_mono (Kd.R_far (p := ⟨gb601, 3, none⟩) (Kd.R_far (p := ⟨gb601, 2, none⟩) (Kd.R_far (p := ⟨gb601, 1, none⟩) (Kd.R_far (p := ⟨gb601, 0, none⟩) (Kd.R_types HO596.out BK601.out (by decide)) (fun _ hk => hk.2) (.slice Ao98 t594.length co98)) (fun _ hk => hk.2) (.bool t597)) (fun _ hk => hk.2) (.int .i64 t598)) (fun _ hk => hk.2) (.string t599)) (fun _ h_ => h_.1))))) (g := gb577) (o := .cells #[.int .i64 t584, .string t585] 34 (0, 0)) P_) (g := gb581) (o := .cells #[.int .i64 t589, .string t590] 34 (0, 0)) P_) (below_size B_)); have n2_ := Aside0.mk (blk_below (g := gb577) (o := .cells #[.int .i64 t584, .string t585] 34 (0, 0)) P_ hb); have n3_ := Aside0.mk (blk_below (g := gb581) (o := .cells #[.int .i64 t589, .string t590] 34 (0, 0)) P_ hb); have n4_ := Aside0.mk (blk_below (g := gb601) (o := .cells #[.slice Ao98 t594.length co98, .bool t597, .int .i64 t598, .string t599] 39 (0, 0)) P_ hb); have n5_ := Aside0.mk (below_step B_ hb); clear HO596; clear BK577; clear BK581; clear BK601; clear HB; have HO596 := n0_; have HO606 := n1_; have BK577 := n2_; have BK581 := n3_; have BK601 := n4_; have HB := n5_; clear n0_ n1_ n2_ n3_ n4_ n5_; (try clear hb); (try clear hb2); (try clear hk); (try clear hi); (try clear ho0)) | ((with_reducible refine d_ 18 ?_); refine X_ 18 #[.slice none 0 0, .bool false, .int .i64 0, .string (⟨#[]⟩ : ByteArray)] 39 ?_; intro gb611 hg w103 hbox hb; have n0_ := Aside0.mk (Kd.R_below (Q_ HO596.out) hb); have n1_ := Aside0.mk (Kd.R_below (Q_ HO606.out) hb); have n2_ := Aside0.mk (blk_below (g := gb577) (o := .cells #[.int .i64 t584, .string t585] 34 (0, 0)) M_ hb); have n3_ := Aside0.mk (blk_below (g := gb581) (o := .cells #[.int .i64 t589, .string t590] 34 (0, 0)) M_ hb); have n4_ := Aside0.mk (blk_below (g := gb601) (o := .cells #[.slice Ao98 t594.length co98, .bool t597, .int .i64 t598, .string t599] 39 (0, 0)) M_ hb); have n5_ := Aside0.mk (below_step B_ hb); have n6_ := Aside0.mk (hbox); have n7_ := Aside0.mk (s_ hg); have n8_ := Aside0.mk (s_ hg); have n9_ := Aside0.mk (x_ hg (g := gb577) (o := .cells #[.int .i64 t584, .string t585] 34 (0, 0)) M_); have n10_ := Aside0.mk n9_.out.symm; have n11_ := Aside0.mk (x_ hg (g := gb581) (o := .cells #[.int .i64 t589, .string t590] 34 (0, 0)) M_); have n12_ := Aside0.mk n11_.out.symm; have n13_ := Aside0.mk (x_ hg (g := gb601) (o := .cells #[.slice Ao98 t594.length co98, .bool t597, .int .i64 t598, .string t599] 39 (0, 0)) M_); have n14_ := Aside0.mk n13_.out.symm; clear HO596; clear HO606; clear BK577; clear BK581; clear BK601; clear HB; have HO596 := n0_; have HO606 := n1_; have BK577 := n2_; have BK581 := n3_; have BK601 := n4_; have HB := n5_; have BK611 := n6_; have GW611 := n7_; have GE611 := n8_; have NB577_611 := n9_; have NB611_577 := n10_; have NB581_611 := n11_; have NB611_581 := n12_; have NB601_611 := n13_; have NB611_601 := n14_; clear n0_ n1_ n2_ n3_ n4_ n5_ n6_ n7_ n8_ n9_ n10_ n11_ n12_ n13_ n14_; clear hb hbox hg; obtain ⟨Ao104, co104, eo104⟩ := Kd.R_slice HO606.out; subst eo104; have hnb105 := NB611_577.out; have hnc105 := NB577_611.out; have hnb106 := NB611_581.out; have hnc106 := NB581_611.out; have hnb107 := NB611_601.out; have hnc107 := NB601_611.out; obtain ⟨hcz108_0, hcz108_1, hcz108_2, hcz108_3, hfz108_0, hfz108_1, hfz108_2, hfz108_3⟩ := c4_ BK611.out))
                                    go_ret
                                    exact ⟨E_, B_⟩
                                · rw [if_neg c62] at H
                                  have c62b0 : (t592.toList == t602.toList) = false := beq_eq_false_iff_ne.mpr c62
                                  have c62b1 : (t592.toList != t602.toList) = true := bne_iff_ne.mpr c62
                                  obtain rfl := Option.some.inj H
                                  go_wp2_with (first | ((with_reducible refine gt_ 21 ?_); refine gc_ 136 Tryd.func21 #[.slice A0 l0.length c0, .int .i64 a1] ?_; (with_reducible refine (pool_Method.calls kj43 _ _ l0 a1 t592 t593 t594 t597 t598 t599 t600 _ ?side1 ?side2 A60.out).mono ?_); (case side1 => exact Y_ (Kd.C_below HR0.out HB.out)); (case side2 => exact HC0.out); rintro e w109 ⟨v595, rfl, ho0, hb⟩; refine ⟨_, rfl, ?_⟩; have n0_ := Aside0.mk (Kd.R_lower (Kd.R_newB (Kd.R_newB ho0 (g := gb577) (o := .cells #[.int .i64 t584, .string t585] 34 (0, 0)) M_) (g := gb581) (o := .cells #[.int .i64 t589, .string t590] 34 (0, 0)) M_) (below_size B_)); have n1_ := Aside0.mk (blk_below (g := gb577) (o := .cells #[.int .i64 t584, .string t585] 34 (0, 0)) M_ hb); have n2_ := Aside0.mk (blk_below (g := gb581) (o := .cells #[.int .i64 t589, .string t590] 34 (0, 0)) M_ hb); have n3_ := Aside0.mk (below_step B_ hb); clear BK577; clear BK581; clear HB; have HO596 := n0_; have BK577 := n1_; have BK581 := n2_; have HB := n3_; clear n0_ n1_ n2_ n3_; (try clear hb); (try clear hb2); (try clear hk); (try clear hi); (try clear ho0)) | ((with_reducible refine d_ 17 ?_); refine X_ 17 #[.slice none 0 0, .bool false, .int .i64 0, .string (⟨#[]⟩ : ByteArray)] 39 ?_; intro gb601 hg w110 hbox hb; have n0_ := Aside0.mk (Kd.R_below (Q_ HO596.out) hb); have n1_ := Aside0.mk (blk_below (g := gb577) (o := .cells #[.int .i64 t584, .string t585] 34 (0, 0)) M_ hb); have n2_ := Aside0.mk (blk_below (g := gb581) (o := .cells #[.int .i64 t589, .string t590] 34 (0, 0)) M_ hb); have n3_ := Aside0.mk (below_step B_ hb); have n4_ := Aside0.mk (hbox); have n5_ := Aside0.mk (s_ hg); have n6_ := Aside0.mk (s_ hg); have n7_ := Aside0.mk (x_ hg (g := gb577) (o := .cells #[.int .i64 t584, .string t585] 34 (0, 0)) M_); have n8_ := Aside0.mk n7_.out.symm; have n9_ := Aside0.mk (x_ hg (g := gb581) (o := .cells #[.int .i64 t589, .string t590] 34 (0, 0)) M_); have n10_ := Aside0.mk n9_.out.symm; clear HO596; clear BK577; clear BK581; clear HB; have HO596 := n0_; have BK577 := n1_; have BK581 := n2_; have HB := n3_; have BK601 := n4_; have GW601 := n5_; have GE601 := n6_; have NB577_601 := n7_; have NB601_577 := n8_; have NB581_601 := n9_; have NB601_581 := n10_; clear n0_ n1_ n2_ n3_ n4_ n5_ n6_ n7_ n8_ n9_ n10_; clear hb hbox hg; obtain ⟨Ao111, co111, eo111⟩ := Kd.R_slice HO596.out; subst eo111; have hnb112 := NB601_577.out; have hnc112 := NB577_601.out; have hnb113 := NB601_581.out; have hnc113 := NB581_601.out; obtain ⟨hcz114_0, hcz114_1, hcz114_2, hcz114_3, hfz114_0, hfz114_1, hfz114_2, hfz114_3⟩ := c4_ BK601.out) | ((with_reducible refine gt_ 49 ?_); refine gc_ 144 Tryd.func49 #[.slice A0 l0.length c0, .int .i64 a1] ?_; (with_reducible refine (keystoneref3_Method.calls kj43 _ _ l0 a1 t602 t603 t604 t607 t608 t609 t610 _ ?side1 ?side2 A61.out).mono ?_); (case side1 => exact Kd.C_below HR0.out B_); (case side2 => exact HC0.out); rintro e w115 ⟨v605, rfl, ho0, hb⟩; refine ⟨_, rfl, ?_⟩; have n0_ := Aside0.mk (Kd.R_elder' (by (with_reducible repeat (first | apply Kd.R_alloc | apply Kd.R_drewN | apply Kd.R_drew)); exact (Kd.R_mono (Kd.R_far (p := ⟨gb601, 3, none⟩) (Kd.R_far (p := ⟨gb601, 2, none⟩) (Kd.R_far (p := ⟨gb601, 1, none⟩) (Kd.R_far (p := ⟨gb601, 0, none⟩) (Kd.R_types HO596.out BK601.out (by decide)) (fun _ hk => hk.2) (.slice Ao111 t594.length co111)) (fun _ hk => hk.2) (.bool t597)) (fun _ hk => hk.2) (.int .i64 t598)) (fun _ hk => hk.2) (.string t599)) (fun _ h_ => h_.1))) (Kd.R_base ho0) hb); have n1_ := Aside0.mk (Kd.R_lower (Kd.R_newB (Kd.R_newB (Kd.R_new' ho0 (Kd.R_lt (by (with_reducible repeat (first | apply Kd.R_alloc | apply Kd.R_drewN | apply Kd.R_drew)); exact (Kd.R_mono (Kd.R_far (p := ⟨gb601, 3, none⟩) (Kd.R_far (p := ⟨gb601, 2, none⟩) (Kd.R_far (p := ⟨gb601, 1, none⟩) (Kd.R_far (p := ⟨gb601, 0, none⟩) (Kd.R_types HO596.out BK601.out (by decide)) (fun _ hk => hk.2) (.slice Ao111 t594.length co111)) (fun _ hk => hk.2) (.bool t597)) (fun _ hk => hk.2) (.int .i64 t598)) (fun _ hk => hk.2) (.string t599)) (fun _ h_ => h_.1))))) (g := gb577) (o := .cells #[.int .i64 t584, .string t585] 34 (0, 0)) P_) (g := gb581) (o := .cells #[.int .i64 t589, .string t590] 34 (0, 0)) P_) (below_size B_)); have n2_ := Aside0.mk (blk_below (g := gb577) (o := .cells #[.int .i64 t584, .string t585] 34 (0, 0)) P_ hb); have n3_ := Aside0.mk (blk_below (g := gb581) (o := .cells #[.int .i64 t589, .string t590] 34 (0, 0)) P_ hb); have n4_ := Aside0.mk (blk_below (g := gb601) (o := .cells #[.slice Ao111 t594.length co111, .bool t597, .int .i64 t598, .string t599] 39 (0, 0)) P_ hb); have n5_ := Aside0.mk (below_step B_ hb); clear HO596; clear BK577; clear BK581; clear BK601; clear HB; have HO596 := n0_; have HO606 := n1_; have BK577 := n2_; have BK581 := n3_; have BK601 := n4_; have HB := n5_; clear n0_ n1_ n2_ n3_ n4_ n5_; (try clear hb); (try clear hb2); (try clear hk); (try clear hi); (try clear ho0)) | ((with_reducible refine d_ 18 ?_); refine X_ 18 #[.slice none 0 0, .bool false, .int .i64 0, .string (⟨#[]⟩ : ByteArray)] 39 ?_; intro gb611 hg w116 hbox hb; have n0_ := Aside0.mk (Kd.R_below (Q_ HO596.out) hb); have n1_ := Aside0.mk (Kd.R_below (Q_ HO606.out) hb); have n2_ := Aside0.mk (blk_below (g := gb577) (o := .cells #[.int .i64 t584, .string t585] 34 (0, 0)) M_ hb); have n3_ := Aside0.mk (blk_below (g := gb581) (o := .cells #[.int .i64 t589, .string t590] 34 (0, 0)) M_ hb); have n4_ := Aside0.mk (blk_below (g := gb601) (o := .cells #[.slice Ao111 t594.length co111, .bool t597, .int .i64 t598, .string t599] 39 (0, 0)) M_ hb); have n5_ := Aside0.mk (below_step B_ hb); have n6_ := Aside0.mk (hbox); have n7_ := Aside0.mk (s_ hg); have n8_ := Aside0.mk (s_ hg); have n9_ := Aside0.mk (x_ hg (g := gb577) (o := .cells #[.int .i64 t584, .string t585] 34 (0, 0)) M_); have n10_ := Aside0.mk n9_.out.symm; have n11_ := Aside0.mk (x_ hg (g := gb581) (o := .cells #[.int .i64 t589, .string t590] 34 (0, 0)) M_); have n12_ := Aside0.mk n11_.out.symm; have n13_ := Aside0.mk (x_ hg (g := gb601) (o := .cells #[.slice Ao111 t594.length co111, .bool t597, .int .i64 t598, .string t599] 39 (0, 0)) M_); have n14_ := Aside0.mk n13_.out.symm; clear HO596; clear HO606; clear BK577; clear BK581; clear BK601; clear HB; have HO596 := n0_; have HO606 := n1_; have BK577 := n2_; have BK581 := n3_; have BK601 := n4_; have HB := n5_; have BK611 := n6_; have GW611 := n7_; have GE611 := n8_; have NB577_611 := n9_; have NB611_577 := n10_; have NB581_611 := n11_; have NB611_581 := n12_; have NB601_611 := n13_; have NB611_601 := n14_; clear n0_ n1_ n2_ n3_ n4_ n5_ n6_ n7_ n8_ n9_ n10_ n11_ n12_ n13_ n14_; clear hb hbox hg; obtain ⟨Ao117, co117, eo117⟩ := Kd.R_slice HO606.out; subst eo117; have hnb118 := NB611_577.out; have hnc118 := NB577_611.out; have hnb119 := NB611_581.out; have hnc119 := NB581_611.out; have hnb120 := NB611_601.out; have hnc120 := NB601_611.out; obtain ⟨hcz121_0, hcz121_1, hcz121_2, hcz121_3, hfz121_0, hfz121_1, hfz121_2, hfz121_3⟩ := c4_ BK611.out))
                                  go_ret
                                  exact ⟨E_, B_⟩

end Go.Proofs.YtldejfkplnejjaaDoor.P
