-- Written by my program xprint.py (a patched run of the kit's print). Lean checks it.
import Derived.Test.YtldejfkplnejjaaDoorP0
import Derived.Test.YtldejfkplnejjaaDoorP6
import Derived.Test.YtldejfkplnejjaaDoorP7
import Derived.Test.YtldejfkplnejjaaDoorExt
import Derived.Test.YtldejfkplnejjaaDoorShort
import Derived.Test.YtldejfkplnejjaaDoorShort2
namespace Go.Proofs.YtldejfkplnejjaaDoor.P
open Go.RowKit Go.Proofs.YtldejfkplnejjaaDoorW.PrintWords Go.Proofs.YtldejfkplnejjaaDoorW.PrintLast Go.Proofs.YtldejfkplnejjaaDoorW.PrintMore
attribute [local go_sem] max2_int min2_int max_two min_two max_three min_three max_four min_four   -- for this text's walks alone
set_option linter.unusedVariables false
set_option linter.unusedSimpArgs false
def keystoneref3_held.f (k : Nat) (l0 : List (S50)) (a1 : Int) (a2 : Int) : Option (Int) := (keystoneref3_is.f l0 a1 a2).bind fun t514 => (if t514 = true then ((keystoneref3_Wrong.f k l0 a1).bind fun t515 => (if t515 = 0 then (if a2 ≥ 5 then (if 0 ≤ a1 then (if a1 < (l0.length : Int) then ((keystoneref3_Wrong.f k l0 ((rd_T50 l0 a1).f3)).bind fun t517 => (some t517)) else (none)) else (none)) else (some t515)) else (some t515))) else (some 16))
theorem keystoneref3_held.mono : ∀ a0 a1 a2 k, LeO (keystoneref3_held.f k a0 a1 a2) (keystoneref3_held.f (k + 1) a0 a1 a2) := by
 intro a0 a1 a2 k
 unfold keystoneref3_held.f
 repeat' first
  | (with_reducible exact keystoneref3_Wrong.mono _ _ _)
  | (with_reducible exact LeO.refl _)
  | (with_reducible exact LeO.none _)
  | (with_reducible refine LeO.ite ?_ ?_)
  | (with_reducible refine LeO.bind ?_ (fun _ => ?_))
  | exact keystoneref3_Wrong.mono _ _ _
  | exact LeO.none _
  | refine LeO.ite ?_ ?_
  | refine LeO.bind ?_ (fun _ => ?_)
set_option maxHeartbeats 8000000 in
set_option maxRecDepth 100000 in
theorem keystoneref3_held.calls (k : Nat) (A0 : Option Addr) (c0 : Nat) (l0 : List (S50)) (a1 : Int) (a2 : Int) (r : Int) (w : World) (hr0 : Kd.C k50 w A0 l0.length l0) (hc0 : l0.length ≤ c0) (h : keystoneref3_held.f k l0 a1 a2 = some r) :
 Calls Tryd.prog 83 #[.slice A0 l0.length c0, .int .i64 a1, .int .i64 a2] w fun e w' => e = .returned (.int .i64 r) ∧ Below w.heap.size w w' := by
 have HR0 := Aside0.mk hr0
 have HC0 := Aside0.mk hc0
 clear hr0 hc0
 have HB := Aside0.mk (Below.refl w.heap.size w)
 have H : ((keystoneref3_is.f l0 a1 a2).bind fun t514 => (if t514 = true then ((keystoneref3_Wrong.f k l0 a1).bind fun t515 => (if t515 = 0 then (if a2 ≥ 5 then (if 0 ≤ a1 then (if a1 < (l0.length : Int) then ((keystoneref3_Wrong.f k l0 ((rd_T50 l0 a1).f3)).bind fun t517 => (some t517)) else (none)) else (none)) else (some t515)) else (some t515))) else (some 16))) = some r := h
 clear h
 replace H := Option.bind_eq_some_iff.mp H
 obtain ⟨t514, A40, H⟩ := H
 replace H : (if t514 = true then ((keystoneref3_Wrong.f k l0 a1).bind fun t515 => (if t515 = 0 then (if a2 ≥ 5 then (if 0 ≤ a1 then (if a1 < (l0.length : Int) then ((keystoneref3_Wrong.f k l0 ((rd_T50 l0 a1).f3)).bind fun t517 => (some t517)) else (none)) else (none)) else (some t515)) else (some t515))) else (some 16)) = some r := H
 have A4 := Aside0.mk A40
 clear A40
 by_cases c5 : t514 = true
 ·
  subst c5
  have H1 : ((keystoneref3_Wrong.f k l0 a1).bind fun t515 => (if t515 = 0 then (if a2 ≥ 5 then (if 0 ≤ a1 then (if a1 < (l0.length : Int) then ((keystoneref3_Wrong.f k l0 ((rd_T50 l0 a1).f3)).bind fun t517 => (some t517)) else (none)) else (none)) else (some t515)) else (some t515))) = some r := by rw [if_pos rfl] at H; exact H
  clear H
  have H := H1
  clear H1
  replace H := Option.bind_eq_some_iff.mp H
  obtain ⟨t515, A60, H⟩ := H
  replace H : (if t515 = 0 then (if a2 ≥ 5 then (if 0 ≤ a1 then (if a1 < (l0.length : Int) then ((keystoneref3_Wrong.f k l0 ((rd_T50 l0 a1).f3)).bind fun t517 => (some t517)) else (none)) else (none)) else (some t515)) else (some t515)) = some r := H
  have A6 := Aside0.mk A60
  clear A60
  by_cases c7 : t515 = 0
  ·
   rw [if_pos c7] at H
   have c7b0 : (t515 == 0) = true := beq_iff_eq.mpr c7
   have c7b1 : (t515 != 0) = false := bne_eq_false_iff_eq.mpr c7
   clear c7
   by_cases c8 : a2 ≥ 5
   ·
    rw [if_pos c8] at H
    have c8b0 : decide (5 ≤ a2) = true := decide_eq_true c8
    clear c8
    by_cases c9 : 0 ≤ a1
    ·
     rw [if_pos c9] at H
     have c9b0 : decide (0 ≤ a1) = true := decide_eq_true c9
     clear c9
     by_cases c10 : a1 < (l0.length : Int)
     ·
      rw [if_pos c10] at H
      have c10b0 : decide (a1 < (l0.length : Int)) = true := decide_eq_true c10
      clear c10
      replace H := Option.bind_eq_some_iff.mp H
      obtain ⟨t517, A110, H⟩ := H
      replace H : (some t517) = some r := H
      have A11 := Aside0.mk A110
      clear A110
      obtain rfl := Option.some.inj H
      go_enter Tryd.func83, Tryd.ntmps83
      go_wp2_with (first | ((with_reducible refine gt_ 79 ?_); refine gd_ 11 Tryd.func79 (keystoneref3_is.calls _ _ l0 a1 a2 true _ (Y_ HR0.out) HC0.out A4.out) ?_; rintro w' ⟨nd, rfl⟩) | ((with_reducible refine gt_ 40 ?_); refine gd_ 15 Tryd.func40 (keystoneref3_Wrong.calls k _ _ l0 a1 t515 _ (Y_ HR0.out) HC0.out A6.out) ?_; intro w12 hb; have HB := bs_ hb; (try clear hb); (try clear hb2); (try clear hk); (try clear hi); have p516 : 0 ≤ (a1 : Int) := of_decide_eq_true A_; have q516 : a1 < (l0.length : Int) := of_decide_eq_true A_; obtain ⟨ad516, e516, hx516_0, hx516_1, hx516_2, hx516_3, hx516_4, hx516_5⟩ := at_T50 HR0.out a1 p516 q516; cases e516; replace hx516_0 := h_ HB hx516_0; replace hx516_1 := h_ HB hx516_1; replace hx516_2 := h_ HB hx516_2; replace hx516_3 := h_ HB hx516_3; replace hx516_4 := h_ HB hx516_4; replace hx516_5 := h_ HB hx516_5; replace p516 := eq_true p516; replace q516 := eq_true q516) | ((with_reducible refine gt_ 40 ?_); refine gd_ 28 Tryd.func40 (keystoneref3_Wrong.calls k _ _ l0 ((rd_T50 l0 a1).f3) t517 _ (Y_ (Kd.C_below HR0.out HB.out)) HC0.out A11.out) ?_; intro w13 hb; have HB := bs_ hb; (try clear hb); (try clear hb2); (try clear hk); (try clear hi)))
      go_ret
      exact ⟨E_, B_⟩
     ·
      rw [if_neg c10] at H
      exact absurd H (by simp)
    ·
     rw [if_neg c9] at H
     exact absurd H (by simp)
   ·
    rw [if_neg c8] at H
    have c8b0 : decide (5 ≤ a2) = false := decide_eq_false c8
    clear c8
    obtain rfl := Option.some.inj H
    go_enter Tryd.func83, Tryd.ntmps83
    go_wp2_with (first | ((with_reducible refine gt_ 79 ?_); refine gd_ 11 Tryd.func79 (keystoneref3_is.calls _ _ l0 a1 a2 true _ (Y_ HR0.out) HC0.out A4.out) ?_; rintro w' ⟨nd, rfl⟩) | ((with_reducible refine gt_ 40 ?_); refine gd_ 15 Tryd.func40 (keystoneref3_Wrong.calls k _ _ l0 a1 t515 _ (Y_ HR0.out) HC0.out A6.out) ?_; intro w14 hb; have HB := bs_ hb; (try clear hb); (try clear hb2); (try clear hk); (try clear hi)))
    go_ret
    exact ⟨E_, B_⟩
  ·
   rw [if_neg c7] at H
   have c7b0 : (t515 == 0) = false := beq_eq_false_iff_ne.mpr c7
   have c7b1 : (t515 != 0) = true := bne_iff_ne.mpr c7
   obtain rfl := Option.some.inj H
   go_enter Tryd.func83, Tryd.ntmps83
   go_wp2_with (first | ((with_reducible refine gt_ 79 ?_); refine gd_ 11 Tryd.func79 (keystoneref3_is.calls _ _ l0 a1 a2 true _ (Y_ HR0.out) HC0.out A4.out) ?_; rintro w' ⟨nd, rfl⟩) | ((with_reducible refine gt_ 40 ?_); refine gd_ 15 Tryd.func40 (keystoneref3_Wrong.calls k _ _ l0 a1 t515 _ (Y_ HR0.out) HC0.out A6.out) ?_; intro w15 hb; have HB := bs_ hb; (try clear hb); (try clear hb2); (try clear hk); (try clear hi)))
   go_ret
   exact ⟨E_, B_⟩
 ·
  replace c5 := Bool.eq_false_iff.mpr c5
  subst c5
  have H1 : (some 16) = some r := by rw [if_neg (show ¬ (false = true) by decide)] at H; exact H
  clear H
  have H := H1
  clear H1
  obtain rfl := Option.some.inj H
  go_enter Tryd.func83, Tryd.ntmps83
  go_wp2_with (first | ((with_reducible refine gt_ 79 ?_); refine gd_ 11 Tryd.func79 (keystoneref3_is.calls _ _ l0 a1 a2 false _ (Y_ HR0.out) HC0.out A4.out) ?_; rintro w' ⟨nd, rfl⟩))
  go_ret
  exact ⟨E_, B_⟩
def keystoneref3_Text.f (k : Nat) (l0 : List (S50)) (a1 : Int) : Option (ByteArray × Int) := (keystoneref3_held.f k l0 a1 1).bind fun t518 => (if t518 = 0 then (if 0 ≤ a1 then (if a1 < (l0.length : Int) then (some ((rd_T50 l0 a1).f1, 0)) else (none)) else (none)) else (some ((⟨#[]⟩ : ByteArray), t518)))
theorem keystoneref3_Text.mono : ∀ a0 a1 k, LeO (keystoneref3_Text.f k a0 a1) (keystoneref3_Text.f (k + 1) a0 a1) := by
 intro a0 a1 k
 unfold keystoneref3_Text.f
 repeat' first
  | (with_reducible exact keystoneref3_held.mono _ _ _ _)
  | (with_reducible exact LeO.refl _)
  | (with_reducible exact LeO.none _)
  | (with_reducible refine LeO.ite ?_ ?_)
  | (with_reducible refine LeO.bind ?_ (fun _ => ?_))
  | exact keystoneref3_held.mono _ _ _ _
  | exact LeO.none _
  | refine LeO.ite ?_ ?_
  | refine LeO.bind ?_ (fun _ => ?_)
set_option maxHeartbeats 8000000 in
set_option maxRecDepth 100000 in
theorem keystoneref3_Text.calls (k : Nat) (A0 : Option Addr) (c0 : Nat) (l0 : List (S50)) (a1 : Int) (r1 : ByteArray) (r2 : Int) (w : World) (hr0 : Kd.C k50 w A0 l0.length l0) (hc0 : l0.length ≤ c0) (h : keystoneref3_Text.f k l0 a1 = some (r1, r2)) :
 Calls Tryd.prog 44 #[.slice A0 l0.length c0, .int .i64 a1] w fun e w' => e = .returned (.tuple #[.string r1, .int .i64 r2]) ∧ Below w.heap.size w w' := by
 have HR0 := Aside0.mk hr0
 have HC0 := Aside0.mk hc0
 clear hr0 hc0
 have HB := Aside0.mk (Below.refl w.heap.size w)
 have H : ((keystoneref3_held.f k l0 a1 1).bind fun t518 => (if t518 = 0 then (if 0 ≤ a1 then (if a1 < (l0.length : Int) then (some ((rd_T50 l0 a1).f1, 0)) else (none)) else (none)) else (some ((⟨#[]⟩ : ByteArray), t518)))) = some (r1, r2) := h
 clear h
 replace H := Option.bind_eq_some_iff.mp H
 obtain ⟨t518, A30, H⟩ := H
 replace H : (if t518 = 0 then (if 0 ≤ a1 then (if a1 < (l0.length : Int) then (some ((rd_T50 l0 a1).f1, 0)) else (none)) else (none)) else (some ((⟨#[]⟩ : ByteArray), t518))) = some (r1, r2) := H
 have A3 := Aside0.mk A30
 clear A30
 by_cases c4 : t518 = 0
 ·
  rw [if_pos c4] at H
  have c4b0 : (t518 == 0) = true := beq_iff_eq.mpr c4
  have c4b1 : (t518 != 0) = false := bne_eq_false_iff_eq.mpr c4
  clear c4
  by_cases c5 : 0 ≤ a1
  ·
   rw [if_pos c5] at H
   have c5b0 : decide (0 ≤ a1) = true := decide_eq_true c5
   clear c5
   by_cases c6 : a1 < (l0.length : Int)
   ·
    rw [if_pos c6] at H
    have c6b0 : decide (a1 < (l0.length : Int)) = true := decide_eq_true c6
    clear c6
    simp only [Option.some.injEq, Prod.mk.injEq] at H
    obtain ⟨rfl, rfl⟩ := H
    go_enter Tryd.func44, Tryd.ntmps44
    go_wp2_with (first | ((with_reducible refine gt_ 83 ?_); refine gd_ 9 Tryd.func83 (keystoneref3_held.calls k _ _ l0 a1 1 t518 _ (Y_ HR0.out) HC0.out A3.out) ?_; intro w7 hb; have HB := bs_ hb; (try clear hb); (try clear hb2); (try clear hk); (try clear hi); have p519 : 0 ≤ (a1 : Int) := of_decide_eq_true A_; have q519 : a1 < (l0.length : Int) := of_decide_eq_true A_; obtain ⟨ad519, e519, hx519_0, hx519_1, hx519_2, hx519_3, hx519_4, hx519_5⟩ := at_T50 HR0.out a1 p519 q519; cases e519; replace hx519_0 := h_ HB hx519_0; replace hx519_1 := h_ HB hx519_1; replace hx519_2 := h_ HB hx519_2; replace hx519_3 := h_ HB hx519_3; replace hx519_4 := h_ HB hx519_4; replace hx519_5 := h_ HB hx519_5; replace p519 := eq_true p519; replace q519 := eq_true q519))
    go_ret2
    exact ⟨E_, B_⟩
   ·
    rw [if_neg c6] at H
    exact absurd H (by simp)
  ·
   rw [if_neg c5] at H
   exact absurd H (by simp)
 ·
  rw [if_neg c4] at H
  have c4b0 : (t518 == 0) = false := beq_eq_false_iff_ne.mpr c4
  have c4b1 : (t518 != 0) = true := bne_iff_ne.mpr c4
  simp only [Option.some.injEq, Prod.mk.injEq] at H
  obtain ⟨rfl, rfl⟩ := H
  go_enter Tryd.func44, Tryd.ntmps44
  go_wp2_with (first | ((with_reducible refine gt_ 83 ?_); refine gd_ 9 Tryd.func83 (keystoneref3_held.calls k _ _ l0 a1 1 t518 _ (Y_ HR0.out) HC0.out A3.out) ?_; intro w8 hb; have HB := bs_ hb; (try clear hb); (try clear hb2); (try clear hk); (try clear hi)))
  go_ret2
  exact ⟨E_, B_⟩
def keystoneref3_Number.f (k : Nat) (l0 : List (S50)) (a1 : Int) : Option (Int × Int) := (keystoneref3_held.f k l0 a1 2).bind fun t520 => (if t520 = 0 then (if 0 ≤ a1 then (if a1 < (l0.length : Int) then (some ((rd_T50 l0 a1).f2, 0)) else (none)) else (none)) else (some (0, t520)))
theorem keystoneref3_Number.mono : ∀ a0 a1 k, LeO (keystoneref3_Number.f k a0 a1) (keystoneref3_Number.f (k + 1) a0 a1) := by
 intro a0 a1 k
 unfold keystoneref3_Number.f
 repeat' first
  | (with_reducible exact keystoneref3_held.mono _ _ _ _)
  | (with_reducible exact LeO.refl _)
  | (with_reducible exact LeO.none _)
  | (with_reducible refine LeO.ite ?_ ?_)
  | (with_reducible refine LeO.bind ?_ (fun _ => ?_))
  | exact keystoneref3_held.mono _ _ _ _
  | exact LeO.none _
  | refine LeO.ite ?_ ?_
  | refine LeO.bind ?_ (fun _ => ?_)
set_option maxHeartbeats 8000000 in
set_option maxRecDepth 100000 in
theorem keystoneref3_Number.calls (k : Nat) (A0 : Option Addr) (c0 : Nat) (l0 : List (S50)) (a1 : Int) (r1 : Int) (r2 : Int) (w : World) (hr0 : Kd.C k50 w A0 l0.length l0) (hc0 : l0.length ≤ c0) (h : keystoneref3_Number.f k l0 a1 = some (r1, r2)) :
 Calls Tryd.prog 45 #[.slice A0 l0.length c0, .int .i64 a1] w fun e w' => e = .returned (.tuple #[.int .i64 r1, .int .i64 r2]) ∧ Below w.heap.size w w' := by
 have HR0 := Aside0.mk hr0
 have HC0 := Aside0.mk hc0
 clear hr0 hc0
 have HB := Aside0.mk (Below.refl w.heap.size w)
 have H : ((keystoneref3_held.f k l0 a1 2).bind fun t520 => (if t520 = 0 then (if 0 ≤ a1 then (if a1 < (l0.length : Int) then (some ((rd_T50 l0 a1).f2, 0)) else (none)) else (none)) else (some (0, t520)))) = some (r1, r2) := h
 clear h
 replace H := Option.bind_eq_some_iff.mp H
 obtain ⟨t520, A30, H⟩ := H
 replace H : (if t520 = 0 then (if 0 ≤ a1 then (if a1 < (l0.length : Int) then (some ((rd_T50 l0 a1).f2, 0)) else (none)) else (none)) else (some (0, t520))) = some (r1, r2) := H
 have A3 := Aside0.mk A30
 clear A30
 by_cases c4 : t520 = 0
 ·
  rw [if_pos c4] at H
  have c4b0 : (t520 == 0) = true := beq_iff_eq.mpr c4
  have c4b1 : (t520 != 0) = false := bne_eq_false_iff_eq.mpr c4
  clear c4
  by_cases c5 : 0 ≤ a1
  ·
   rw [if_pos c5] at H
   have c5b0 : decide (0 ≤ a1) = true := decide_eq_true c5
   clear c5
   by_cases c6 : a1 < (l0.length : Int)
   ·
    rw [if_pos c6] at H
    have c6b0 : decide (a1 < (l0.length : Int)) = true := decide_eq_true c6
    clear c6
    simp only [Option.some.injEq, Prod.mk.injEq] at H
    obtain ⟨rfl, rfl⟩ := H
    go_enter Tryd.func45, Tryd.ntmps45
    go_wp2_with (first | ((with_reducible refine gt_ 83 ?_); refine gd_ 9 Tryd.func83 (keystoneref3_held.calls k _ _ l0 a1 2 t520 _ (Y_ HR0.out) HC0.out A3.out) ?_; intro w7 hb; have HB := bs_ hb; (try clear hb); (try clear hb2); (try clear hk); (try clear hi); have p521 : 0 ≤ (a1 : Int) := of_decide_eq_true A_; have q521 : a1 < (l0.length : Int) := of_decide_eq_true A_; obtain ⟨ad521, e521, hx521_0, hx521_1, hx521_2, hx521_3, hx521_4, hx521_5⟩ := at_T50 HR0.out a1 p521 q521; cases e521; replace hx521_0 := h_ HB hx521_0; replace hx521_1 := h_ HB hx521_1; replace hx521_2 := h_ HB hx521_2; replace hx521_3 := h_ HB hx521_3; replace hx521_4 := h_ HB hx521_4; replace hx521_5 := h_ HB hx521_5; replace p521 := eq_true p521; replace q521 := eq_true q521))
    go_ret2
    exact ⟨E_, B_⟩
   ·
    rw [if_neg c6] at H
    exact absurd H (by simp)
  ·
   rw [if_neg c5] at H
   exact absurd H (by simp)
 ·
  rw [if_neg c4] at H
  have c4b0 : (t520 == 0) = false := beq_eq_false_iff_ne.mpr c4
  have c4b1 : (t520 != 0) = true := bne_iff_ne.mpr c4
  simp only [Option.some.injEq, Prod.mk.injEq] at H
  obtain ⟨rfl, rfl⟩ := H
  go_enter Tryd.func45, Tryd.ntmps45
  go_wp2_with (first | ((with_reducible refine gt_ 83 ?_); refine gd_ 9 Tryd.func83 (keystoneref3_held.calls k _ _ l0 a1 2 t520 _ (Y_ HR0.out) HC0.out A3.out) ?_; intro w8 hb; have HB := bs_ hb; (try clear hb); (try clear hb2); (try clear hk); (try clear hi)))
  go_ret2
  exact ⟨E_, B_⟩
def keystoneref3_Class.f (k : Nat) (l0 : List (S50)) (a1 : Int) : Option (ByteArray × Int) := (keystoneref3_held.f k l0 a1 3).bind fun t522 => (if t522 = 0 then (if 0 ≤ a1 then (if a1 < (l0.length : Int) then (if 0 ≤ ((rd_T50 l0 a1).f3) then (if ((rd_T50 l0 a1).f3) < (l0.length : Int) then (some ((rd_T50 l0 ((rd_T50 l0 a1).f3)).f1, 0)) else (none)) else (none)) else (none)) else (none)) else (some ((⟨#[]⟩ : ByteArray), t522)))
theorem keystoneref3_Class.mono : ∀ a0 a1 k, LeO (keystoneref3_Class.f k a0 a1) (keystoneref3_Class.f (k + 1) a0 a1) := by
 intro a0 a1 k
 unfold keystoneref3_Class.f
 repeat' first
  | (with_reducible exact keystoneref3_held.mono _ _ _ _)
  | (with_reducible exact LeO.refl _)
  | (with_reducible exact LeO.none _)
  | (with_reducible refine LeO.ite ?_ ?_)
  | (with_reducible refine LeO.bind ?_ (fun _ => ?_))
  | exact keystoneref3_held.mono _ _ _ _
  | exact LeO.none _
  | refine LeO.ite ?_ ?_
  | refine LeO.bind ?_ (fun _ => ?_)
set_option maxHeartbeats 8000000 in
set_option maxRecDepth 100000 in
theorem keystoneref3_Class.calls (k : Nat) (A0 : Option Addr) (c0 : Nat) (l0 : List (S50)) (a1 : Int) (r1 : ByteArray) (r2 : Int) (w : World) (hr0 : Kd.C k50 w A0 l0.length l0) (hc0 : l0.length ≤ c0) (h : keystoneref3_Class.f k l0 a1 = some (r1, r2)) :
 Calls Tryd.prog 46 #[.slice A0 l0.length c0, .int .i64 a1] w fun e w' => e = .returned (.tuple #[.string r1, .int .i64 r2]) ∧ Below w.heap.size w w' := by
 have HR0 := Aside0.mk hr0
 have HC0 := Aside0.mk hc0
 clear hr0 hc0
 have HB := Aside0.mk (Below.refl w.heap.size w)
 have H : ((keystoneref3_held.f k l0 a1 3).bind fun t522 => (if t522 = 0 then (if 0 ≤ a1 then (if a1 < (l0.length : Int) then (if 0 ≤ ((rd_T50 l0 a1).f3) then (if ((rd_T50 l0 a1).f3) < (l0.length : Int) then (some ((rd_T50 l0 ((rd_T50 l0 a1).f3)).f1, 0)) else (none)) else (none)) else (none)) else (none)) else (some ((⟨#[]⟩ : ByteArray), t522)))) = some (r1, r2) := h
 clear h
 replace H := Option.bind_eq_some_iff.mp H
 obtain ⟨t522, A30, H⟩ := H
 replace H : (if t522 = 0 then (if 0 ≤ a1 then (if a1 < (l0.length : Int) then (if 0 ≤ ((rd_T50 l0 a1).f3) then (if ((rd_T50 l0 a1).f3) < (l0.length : Int) then (some ((rd_T50 l0 ((rd_T50 l0 a1).f3)).f1, 0)) else (none)) else (none)) else (none)) else (none)) else (some ((⟨#[]⟩ : ByteArray), t522))) = some (r1, r2) := H
 have A3 := Aside0.mk A30
 clear A30
 by_cases c4 : t522 = 0
 ·
  rw [if_pos c4] at H
  have c4b0 : (t522 == 0) = true := beq_iff_eq.mpr c4
  have c4b1 : (t522 != 0) = false := bne_eq_false_iff_eq.mpr c4
  clear c4
  by_cases c5 : 0 ≤ a1
  ·
   rw [if_pos c5] at H
   have c5b0 : decide (0 ≤ a1) = true := decide_eq_true c5
   clear c5
   by_cases c6 : a1 < (l0.length : Int)
   ·
    rw [if_pos c6] at H
    have c6b0 : decide (a1 < (l0.length : Int)) = true := decide_eq_true c6
    clear c6
    by_cases c7 : 0 ≤ ((rd_T50 l0 a1).f3)
    ·
     rw [if_pos c7] at H
     have c7b0 : decide (0 ≤ ((rd_T50 l0 a1).f3)) = true := decide_eq_true c7
     clear c7
     by_cases c8 : ((rd_T50 l0 a1).f3) < (l0.length : Int)
     ·
      rw [if_pos c8] at H
      have c8b0 : decide (((rd_T50 l0 a1).f3) < (l0.length : Int)) = true := decide_eq_true c8
      clear c8
      simp only [Option.some.injEq, Prod.mk.injEq] at H
      obtain ⟨rfl, rfl⟩ := H
      go_enter Tryd.func46, Tryd.ntmps46
      go_wp2_with (first | ((with_reducible refine gt_ 83 ?_); refine gd_ 9 Tryd.func83 (keystoneref3_held.calls k _ _ l0 a1 3 t522 _ (Y_ HR0.out) HC0.out A3.out) ?_; intro w9 hb; have HB := bs_ hb; (try clear hb); (try clear hb2); (try clear hk); (try clear hi); have p523 : 0 ≤ (a1 : Int) := of_decide_eq_true A_; have q523 : a1 < (l0.length : Int) := of_decide_eq_true A_; obtain ⟨ad523, e523, hx523_0, hx523_1, hx523_2, hx523_3, hx523_4, hx523_5⟩ := at_T50 HR0.out a1 p523 q523; cases e523; replace hx523_0 := h_ HB hx523_0; replace hx523_1 := h_ HB hx523_1; replace hx523_2 := h_ HB hx523_2; replace hx523_3 := h_ HB hx523_3; replace hx523_4 := h_ HB hx523_4; replace hx523_5 := h_ HB hx523_5; replace p523 := eq_true p523; replace q523 := eq_true q523; have p524 : 0 ≤ (((rd_T50 l0 a1).f3) : Int) := of_decide_eq_true A_; have q524 : ((rd_T50 l0 a1).f3) < (l0.length : Int) := of_decide_eq_true A_; obtain ⟨ad524, e524, hx524_0, hx524_1, hx524_2, hx524_3, hx524_4, hx524_5⟩ := at_T50 HR0.out ((rd_T50 l0 a1).f3) p524 q524; obtain rfl : ad523 = ad524 := (by injection e524); replace hx524_0 := h_ HB hx524_0; replace hx524_1 := h_ HB hx524_1; replace hx524_2 := h_ HB hx524_2; replace hx524_3 := h_ HB hx524_3; replace hx524_4 := h_ HB hx524_4; replace hx524_5 := h_ HB hx524_5; replace p524 := eq_true p524; replace q524 := eq_true q524))
      go_ret2
      exact ⟨E_, B_⟩
     ·
      rw [if_neg c8] at H
      exact absurd H (by simp)
    ·
     rw [if_neg c7] at H
     exact absurd H (by simp)
   ·
    rw [if_neg c6] at H
    exact absurd H (by simp)
  ·
   rw [if_neg c5] at H
   exact absurd H (by simp)
 ·
  rw [if_neg c4] at H
  have c4b0 : (t522 == 0) = false := beq_eq_false_iff_ne.mpr c4
  have c4b1 : (t522 != 0) = true := bne_iff_ne.mpr c4
  simp only [Option.some.injEq, Prod.mk.injEq] at H
  obtain ⟨rfl, rfl⟩ := H
  go_enter Tryd.func46, Tryd.ntmps46
  go_wp2_with (first | ((with_reducible refine gt_ 83 ?_); refine gd_ 9 Tryd.func83 (keystoneref3_held.calls k _ _ l0 a1 3 t522 _ (Y_ HR0.out) HC0.out A3.out) ?_; intro w10 hb; have HB := bs_ hb; (try clear hb); (try clear hb2); (try clear hk); (try clear hi)))
  go_ret2
  exact ⟨E_, B_⟩
def keystoneref3_Type.f (k : Nat) (l0 : List (S50)) (a1 : Int) : Option (Int × ByteArray × Int) := (keystoneref3_held.f k l0 a1 4).bind fun t526 => (if t526 = 0 then (if 0 ≤ a1 then (if a1 < (l0.length : Int) then (if 0 ≤ ((rd_T50 l0 a1).f3) then (if ((rd_T50 l0 a1).f3) < (l0.length : Int) then ((keystoneref2_Type.f k ((rd_T50 l0 ((rd_T50 l0 a1).f3)).f1)).bind fun bt529 => (some (bt529.1, bt529.2.1, bt529.2.2))) else (none)) else (none)) else (none)) else (none)) else (some (0, (⟨#[]⟩ : ByteArray), t526)))
theorem keystoneref3_Type.mono : ∀ a0 a1 k, LeO (keystoneref3_Type.f k a0 a1) (keystoneref3_Type.f (k + 1) a0 a1) := by
 intro a0 a1 k
 unfold keystoneref3_Type.f
 repeat' first
  | (with_reducible exact keystoneref2_Type.mono _ _)
  | (with_reducible exact keystoneref3_held.mono _ _ _ _)
  | (with_reducible exact LeO.refl _)
  | (with_reducible exact LeO.none _)
  | (with_reducible refine LeO.ite ?_ ?_)
  | (with_reducible refine LeO.bind ?_ (fun _ => ?_))
  | exact keystoneref2_Type.mono _ _
  | exact keystoneref3_held.mono _ _ _ _
  | exact LeO.none _
  | refine LeO.ite ?_ ?_
  | refine LeO.bind ?_ (fun _ => ?_)
set_option maxHeartbeats 8000000 in
set_option maxRecDepth 100000 in
theorem keystoneref3_Type.calls (k : Nat) (A0 : Option Addr) (c0 : Nat) (l0 : List (S50)) (a1 : Int) (r1 : Int) (r2 : ByteArray) (r3 : Int) (w : World) (hr0 : Kd.C k50 w A0 l0.length l0) (hc0 : l0.length ≤ c0) (h : keystoneref3_Type.f k l0 a1 = some (r1, r2, r3)) :
 Calls Tryd.prog 47 #[.slice A0 l0.length c0, .int .i64 a1] w fun e w' => e = .returned (.tuple #[.agg #[.int .i64 r1, .string r2], .int .i64 r3]) ∧ Below w.heap.size w w' := by
 have hu34 := Tryd.underlying34
 have HR0 := Aside0.mk hr0
 have HC0 := Aside0.mk hc0
 clear hr0 hc0
 have HB := Aside0.mk (Below.refl w.heap.size w)
 have H : ((keystoneref3_held.f k l0 a1 4).bind fun t526 => (if t526 = 0 then (if 0 ≤ a1 then (if a1 < (l0.length : Int) then (if 0 ≤ ((rd_T50 l0 a1).f3) then (if ((rd_T50 l0 a1).f3) < (l0.length : Int) then ((keystoneref2_Type.f k ((rd_T50 l0 ((rd_T50 l0 a1).f3)).f1)).bind fun bt529 => (some (bt529.1, bt529.2.1, bt529.2.2))) else (none)) else (none)) else (none)) else (none)) else (some (0, (⟨#[]⟩ : ByteArray), t526)))) = some (r1, r2, r3) := h
 clear h
 replace H := Option.bind_eq_some_iff.mp H
 obtain ⟨t526, A30, H⟩ := H
 replace H : (if t526 = 0 then (if 0 ≤ a1 then (if a1 < (l0.length : Int) then (if 0 ≤ ((rd_T50 l0 a1).f3) then (if ((rd_T50 l0 a1).f3) < (l0.length : Int) then ((keystoneref2_Type.f k ((rd_T50 l0 ((rd_T50 l0 a1).f3)).f1)).bind fun bt529 => (some (bt529.1, bt529.2.1, bt529.2.2))) else (none)) else (none)) else (none)) else (none)) else (some (0, (⟨#[]⟩ : ByteArray), t526))) = some (r1, r2, r3) := H
 have A3 := Aside0.mk A30
 clear A30
 by_cases c4 : t526 = 0
 ·
  rw [if_pos c4] at H
  have c4b0 : (t526 == 0) = true := beq_iff_eq.mpr c4
  have c4b1 : (t526 != 0) = false := bne_eq_false_iff_eq.mpr c4
  clear c4
  by_cases c5 : 0 ≤ a1
  ·
   rw [if_pos c5] at H
   have c5b0 : decide (0 ≤ a1) = true := decide_eq_true c5
   clear c5
   by_cases c6 : a1 < (l0.length : Int)
   ·
    rw [if_pos c6] at H
    have c6b0 : decide (a1 < (l0.length : Int)) = true := decide_eq_true c6
    clear c6
    by_cases c7 : 0 ≤ ((rd_T50 l0 a1).f3)
    ·
     rw [if_pos c7] at H
     have c7b0 : decide (0 ≤ ((rd_T50 l0 a1).f3)) = true := decide_eq_true c7
     clear c7
     by_cases c8 : ((rd_T50 l0 a1).f3) < (l0.length : Int)
     ·
      rw [if_pos c8] at H
      have c8b0 : decide (((rd_T50 l0 a1).f3) < (l0.length : Int)) = true := decide_eq_true c8
      clear c8
      replace H := Option.bind_eq_some_iff.mp H
      obtain ⟨⟨t529, t530, t531⟩, A90, H⟩ := H
      replace H : (some (t529, t530, t531)) = some (r1, r2, r3) := H
      have A9 := Aside0.mk A90
      clear A90
      simp only [Option.some.injEq, Prod.mk.injEq] at H
      obtain ⟨rfl, rfl, rfl⟩ := H
      go_enter Tryd.func47, Tryd.ntmps47
      go_wp2_with (first | ((with_reducible refine d_ 4 ?_); refine X_ 4 #[.int .i64 0, .string (⟨#[]⟩ : ByteArray)] 34 ?_; intro gb525 hg w10 hbox hb; have BK525 := Aside0.mk hbox; have GW525 := Aside0.mk (s_ hg); have GE525 := GW525; have HB := bs_ hb; clear hb hbox hg) | ((with_reducible refine gt_ 83 ?_); refine gd_ 9 Tryd.func83 (keystoneref3_held.calls k _ _ l0 a1 4 t526 _ (Y_ (Kd.C_below HR0.out HB.out)) HC0.out A3.out) ?_; intro w11 hb; have BK525 := kb_ BK525 hb; have HB := bs_ hb; (try clear hb); (try clear hb2); (try clear hk); (try clear hi); have p527 : 0 ≤ (a1 : Int) := of_decide_eq_true A_; have q527 : a1 < (l0.length : Int) := of_decide_eq_true A_; obtain ⟨ad527, e527, hx527_0, hx527_1, hx527_2, hx527_3, hx527_4, hx527_5⟩ := at_T50 HR0.out a1 p527 q527; cases e527; replace hx527_0 := h_ HB hx527_0; replace hx527_1 := h_ HB hx527_1; replace hx527_2 := h_ HB hx527_2; replace hx527_3 := h_ HB hx527_3; replace hx527_4 := h_ HB hx527_4; replace hx527_5 := h_ HB hx527_5; replace p527 := eq_true p527; replace q527 := eq_true q527; have p528 : 0 ≤ (((rd_T50 l0 a1).f3) : Int) := of_decide_eq_true A_; have q528 : ((rd_T50 l0 a1).f3) < (l0.length : Int) := of_decide_eq_true A_; obtain ⟨ad528, e528, hx528_0, hx528_1, hx528_2, hx528_3, hx528_4, hx528_5⟩ := at_T50 HR0.out ((rd_T50 l0 a1).f3) p528 q528; obtain rfl : ad527 = ad528 := (by injection e528); replace hx528_0 := h_ HB hx528_0; replace hx528_1 := h_ HB hx528_1; replace hx528_2 := h_ HB hx528_2; replace hx528_3 := h_ HB hx528_3; replace hx528_4 := h_ HB hx528_4; replace hx528_5 := h_ HB hx528_5; replace p528 := eq_true p528; replace q528 := eq_true q528) | ((with_reducible refine gt_ 84 ?_); refine gd_ 23 Tryd.func84 (keystoneref2_Type.calls k ((rd_T50 l0 ((rd_T50 l0 a1).f3)).f1) t529 t530 t531 _ A9.out) ?_; intro w12 hb; have BK525 := kb_ BK525 hb; have HB := bs_ hb; (try clear hb); (try clear hb2); (try clear hk); (try clear hi); obtain ⟨hcz13_0, hcz13_1, hfz13_0, hfz13_1⟩ := c2_ BK525.out))
      refine bodyPost_ret (results_ct rfl _ _ gb525 34 #[.int .i64 t529, .string t530] (0, 0) _ rfl P_ Tryd.underlying34 rfl (by kernel_rfl)) rfl ?_
      exact ⟨E_, B_⟩
     ·
      rw [if_neg c8] at H
      exact absurd H (by simp)
    ·
     rw [if_neg c7] at H
     exact absurd H (by simp)
   ·
    rw [if_neg c6] at H
    exact absurd H (by simp)
  ·
   rw [if_neg c5] at H
   exact absurd H (by simp)
 ·
  rw [if_neg c4] at H
  have c4b0 : (t526 == 0) = false := beq_eq_false_iff_ne.mpr c4
  have c4b1 : (t526 != 0) = true := bne_iff_ne.mpr c4
  simp only [Option.some.injEq, Prod.mk.injEq] at H
  obtain ⟨rfl, rfl, rfl⟩ := H
  go_enter Tryd.func47, Tryd.ntmps47
  go_wp2_with (first | ((with_reducible refine d_ 4 ?_); refine X_ 4 #[.int .i64 0, .string (⟨#[]⟩ : ByteArray)] 34 ?_; intro gb525 hg w14 hbox hb; have BK525 := Aside0.mk hbox; have GW525 := Aside0.mk (s_ hg); have GE525 := GW525; have HB := bs_ hb; clear hb hbox hg) | ((with_reducible refine gt_ 83 ?_); refine gd_ 9 Tryd.func83 (keystoneref3_held.calls k _ _ l0 a1 4 t526 _ (Y_ (Kd.C_below HR0.out HB.out)) HC0.out A3.out) ?_; intro w15 hb; have BK525 := kb_ BK525 hb; have HB := bs_ hb; (try clear hb); (try clear hb2); (try clear hk); (try clear hi); obtain ⟨hcz16_0, hcz16_1, hfz16_0, hfz16_1⟩ := c2_ BK525.out))
  refine bodyPost_ret (results_ct rfl _ _ gb525 34 #[.int .i64 0, .string (⟨#[]⟩ : ByteArray)] (0, 0) _ rfl P_ Tryd.underlying34 rfl (by kernel_rfl)) rfl ?_
  exact ⟨E_, B_⟩
def keystoneref3_Field.f (k : Nat) (l0 : List (S50)) (a1 : Int) : Option (ByteArray × ByteArray × Int × ByteArray × Int) := (keystoneref3_held.f k l0 a1 5).bind fun t533 => (if t533 = 0 then (if 0 ≤ a1 then (if a1 < (l0.length : Int) then (if 0 ≤ ((rd_T50 l0 a1).f5) then (if ((rd_T50 l0 a1).f5) < (l0.length : Int) then ((keystoneref2_Type.f k ((rd_T50 l0 ((rd_T50 l0 a1).f5)).f1)).bind fun bt536 => (if 0 ≤ ((rd_T50 l0 a1).f3) then (if ((rd_T50 l0 a1).f3) < (l0.length : Int) then (if 0 ≤ ((rd_T50 l0 ((rd_T50 l0 a1).f3)).f3) then (if ((rd_T50 l0 ((rd_T50 l0 a1).f3)).f3) < (l0.length : Int) then (if 0 ≤ ((rd_T50 l0 a1).f4) then (if ((rd_T50 l0 a1).f4) < (l0.length : Int) then (some ((rd_T50 l0 ((rd_T50 l0 ((rd_T50 l0 a1).f3)).f3)).f1, (rd_T50 l0 ((rd_T50 l0 a1).f4)).f1, bt536.1, bt536.2.1, 0)) else (none)) else (none)) else (none)) else (none)) else (none)) else (none))) else (none)) else (none)) else (none)) else (none)) else (some ((⟨#[]⟩ : ByteArray), (⟨#[]⟩ : ByteArray), 0, (⟨#[]⟩ : ByteArray), t533)))
theorem keystoneref3_Field.mono : ∀ a0 a1 k, LeO (keystoneref3_Field.f k a0 a1) (keystoneref3_Field.f (k + 1) a0 a1) := by
 intro a0 a1 k
 unfold keystoneref3_Field.f
 repeat' first
  | (with_reducible exact keystoneref2_Type.mono _ _)
  | (with_reducible exact keystoneref3_held.mono _ _ _ _)
  | (with_reducible exact LeO.refl _)
  | (with_reducible exact LeO.none _)
  | (with_reducible refine LeO.ite ?_ ?_)
  | (with_reducible refine LeO.bind ?_ (fun _ => ?_))
  | exact keystoneref2_Type.mono _ _
  | exact keystoneref3_held.mono _ _ _ _
  | exact LeO.none _
  | refine LeO.ite ?_ ?_
  | refine LeO.bind ?_ (fun _ => ?_)
def keystoneref3_Field.T5 : Bool × List (List Nat × List Nat) := (true, [([], []), ([], []), ([], []), ([], []), ([2, 3], [2, 3]), ([4], [4]), ([5], [5]), ([1, 6], [1, 6]), ([7], [7]), ([8], [8]), ([0, 9], [0, 9]), ([10], [10]), ([11], [11]), ([], []), ([], []), ([], []), ([14, 15], [14, 15]), ([16], [16]), ([17], [17]), ([13, 18], [13, 18]), ([19], [19]), ([20], [20]), ([], []), ([12, 0, 1, 2, 3, 4, 5, 6, 7, 8, 9, 10, 11, 12], [12]), ([21, 23, 0, 1, 2, 3, 4, 5, 6, 7, 8, 9, 10, 11, 12, 13, 14, 15, 16, 17, 18, 19, 20, 21, 23], [21]), ([22, 24, 0, 1, 2, 3, 4, 5, 6, 7, 8, 9, 10, 11, 12, 13, 14, 15, 16, 17, 18, 19, 20, 21, 22, 23, 24], [22]), ([25, 0, 1, 2, 3, 4, 5, 6, 7, 8, 9, 10, 11, 12, 13, 14, 15, 16, 17, 18, 19, 20, 21, 22, 23, 24, 25], [])])
def keystoneref3_Field.B5 : List Nat := [0, 0, 0, 0, 12, 28, 60, 126, 254, 510, 1023, 2047, 4095, 0, 0, 0, 49152, 114688, 245760, 516096, 1040384, 2088960, 0, 8191, 12582911, 33554431, 67108863]
theorem keystoneref3_Field.tab5 : rtab .any (opsOf Tryd.f48 5) = keystoneref3_Field.T5 := by kernel_rfl
theorem keystoneref3_Field.bits5 : waitsOk keystoneref3_Field.T5.2 keystoneref3_Field.B5 = true := by kernel_rfl
set_option maxHeartbeats 8000000 in
set_option maxRecDepth 100000 in
theorem keystoneref3_Field.calls (k : Nat) (A0 : Option Addr) (c0 : Nat) (l0 : List (S50)) (a1 : Int) (r1 : ByteArray) (r2 : ByteArray) (r3 : Int) (r4 : ByteArray) (r5 : Int) (w : World) (hr0 : Kd.C k50 w A0 l0.length l0) (hc0 : l0.length ≤ c0) (h : keystoneref3_Field.f k l0 a1 = some (r1, r2, r3, r4, r5)) :
 Calls Tryd.prog 48 #[.slice A0 l0.length c0, .int .i64 a1] w fun e w' => e = .returned (.tuple #[.string r1, .string r2, .agg #[.int .i64 r3, .string r4], .int .i64 r5]) ∧ Below w.heap.size w w' := by
 have hu34 := Tryd.underlying34
 have HR0 := Aside0.mk hr0
 have HC0 := Aside0.mk hc0
 clear hr0 hc0
 have HB := Aside0.mk (Below.refl w.heap.size w)
 have H : ((keystoneref3_held.f k l0 a1 5).bind fun t533 => (if t533 = 0 then (if 0 ≤ a1 then (if a1 < (l0.length : Int) then (if 0 ≤ ((rd_T50 l0 a1).f5) then (if ((rd_T50 l0 a1).f5) < (l0.length : Int) then ((keystoneref2_Type.f k ((rd_T50 l0 ((rd_T50 l0 a1).f5)).f1)).bind fun bt536 => (if 0 ≤ ((rd_T50 l0 a1).f3) then (if ((rd_T50 l0 a1).f3) < (l0.length : Int) then (if 0 ≤ ((rd_T50 l0 ((rd_T50 l0 a1).f3)).f3) then (if ((rd_T50 l0 ((rd_T50 l0 a1).f3)).f3) < (l0.length : Int) then (if 0 ≤ ((rd_T50 l0 a1).f4) then (if ((rd_T50 l0 a1).f4) < (l0.length : Int) then (some ((rd_T50 l0 ((rd_T50 l0 ((rd_T50 l0 a1).f3)).f3)).f1, (rd_T50 l0 ((rd_T50 l0 a1).f4)).f1, bt536.1, bt536.2.1, 0)) else (none)) else (none)) else (none)) else (none)) else (none)) else (none))) else (none)) else (none)) else (none)) else (none)) else (some ((⟨#[]⟩ : ByteArray), (⟨#[]⟩ : ByteArray), 0, (⟨#[]⟩ : ByteArray), t533)))) = some (r1, r2, r3, r4, r5) := h
 clear h
 replace H := Option.bind_eq_some_iff.mp H
 obtain ⟨t533, A30, H⟩ := H
 replace H : (if t533 = 0 then (if 0 ≤ a1 then (if a1 < (l0.length : Int) then (if 0 ≤ ((rd_T50 l0 a1).f5) then (if ((rd_T50 l0 a1).f5) < (l0.length : Int) then ((keystoneref2_Type.f k ((rd_T50 l0 ((rd_T50 l0 a1).f5)).f1)).bind fun bt536 => (if 0 ≤ ((rd_T50 l0 a1).f3) then (if ((rd_T50 l0 a1).f3) < (l0.length : Int) then (if 0 ≤ ((rd_T50 l0 ((rd_T50 l0 a1).f3)).f3) then (if ((rd_T50 l0 ((rd_T50 l0 a1).f3)).f3) < (l0.length : Int) then (if 0 ≤ ((rd_T50 l0 a1).f4) then (if ((rd_T50 l0 a1).f4) < (l0.length : Int) then (some ((rd_T50 l0 ((rd_T50 l0 ((rd_T50 l0 a1).f3)).f3)).f1, (rd_T50 l0 ((rd_T50 l0 a1).f4)).f1, bt536.1, bt536.2.1, 0)) else (none)) else (none)) else (none)) else (none)) else (none)) else (none))) else (none)) else (none)) else (none)) else (none)) else (some ((⟨#[]⟩ : ByteArray), (⟨#[]⟩ : ByteArray), 0, (⟨#[]⟩ : ByteArray), t533))) = some (r1, r2, r3, r4, r5) := H
 have A3 := Aside0.mk A30
 clear A30
 by_cases c4 : t533 = 0
 ·
  rw [if_pos c4] at H
  have c4b0 : (t533 == 0) = true := beq_iff_eq.mpr c4
  have c4b1 : (t533 != 0) = false := bne_eq_false_iff_eq.mpr c4
  clear c4
  by_cases c5 : 0 ≤ a1
  ·
   rw [if_pos c5] at H
   have c5b0 : decide (0 ≤ a1) = true := decide_eq_true c5
   clear c5
   by_cases c6 : a1 < (l0.length : Int)
   ·
    rw [if_pos c6] at H
    have c6b0 : decide (a1 < (l0.length : Int)) = true := decide_eq_true c6
    clear c6
    by_cases c7 : 0 ≤ ((rd_T50 l0 a1).f5)
    ·
     rw [if_pos c7] at H
     have c7b0 : decide (0 ≤ ((rd_T50 l0 a1).f5)) = true := decide_eq_true c7
     clear c7
     by_cases c8 : ((rd_T50 l0 a1).f5) < (l0.length : Int)
     ·
      rw [if_pos c8] at H
      have c8b0 : decide (((rd_T50 l0 a1).f5) < (l0.length : Int)) = true := decide_eq_true c8
      clear c8
      replace H := Option.bind_eq_some_iff.mp H
      obtain ⟨⟨t536, t537, t538⟩, A90, H⟩ := H
      replace H : (if 0 ≤ ((rd_T50 l0 a1).f3) then (if ((rd_T50 l0 a1).f3) < (l0.length : Int) then (if 0 ≤ ((rd_T50 l0 ((rd_T50 l0 a1).f3)).f3) then (if ((rd_T50 l0 ((rd_T50 l0 a1).f3)).f3) < (l0.length : Int) then (if 0 ≤ ((rd_T50 l0 a1).f4) then (if ((rd_T50 l0 a1).f4) < (l0.length : Int) then (some ((rd_T50 l0 ((rd_T50 l0 ((rd_T50 l0 a1).f3)).f3)).f1, (rd_T50 l0 ((rd_T50 l0 a1).f4)).f1, t536, t537, 0)) else (none)) else (none)) else (none)) else (none)) else (none)) else (none)) = some (r1, r2, r3, r4, r5) := H
      have A9 := Aside0.mk A90
      clear A90
      by_cases c10 : 0 ≤ ((rd_T50 l0 a1).f3)
      ·
       rw [if_pos c10] at H
       have c10b0 : decide (0 ≤ ((rd_T50 l0 a1).f3)) = true := decide_eq_true c10
       clear c10
       by_cases c11 : ((rd_T50 l0 a1).f3) < (l0.length : Int)
       ·
        rw [if_pos c11] at H
        have c11b0 : decide (((rd_T50 l0 a1).f3) < (l0.length : Int)) = true := decide_eq_true c11
        clear c11
        by_cases c12 : 0 ≤ ((rd_T50 l0 ((rd_T50 l0 a1).f3)).f3)
        ·
         rw [if_pos c12] at H
         have c12b0 : decide (0 ≤ ((rd_T50 l0 ((rd_T50 l0 a1).f3)).f3)) = true := decide_eq_true c12
         clear c12
         by_cases c13 : ((rd_T50 l0 ((rd_T50 l0 a1).f3)).f3) < (l0.length : Int)
         ·
          rw [if_pos c13] at H
          have c13b0 : decide (((rd_T50 l0 ((rd_T50 l0 a1).f3)).f3) < (l0.length : Int)) = true := decide_eq_true c13
          clear c13
          by_cases c14 : 0 ≤ ((rd_T50 l0 a1).f4)
          ·
           rw [if_pos c14] at H
           have c14b0 : decide (0 ≤ ((rd_T50 l0 a1).f4)) = true := decide_eq_true c14
           clear c14
           by_cases c15 : ((rd_T50 l0 a1).f4) < (l0.length : Int)
           ·
            rw [if_pos c15] at H
            have c15b0 : decide (((rd_T50 l0 a1).f4) < (l0.length : Int)) = true := decide_eq_true c15
            clear c15
            simp only [Option.some.injEq, Prod.mk.injEq] at H
            obtain ⟨rfl, rfl, rfl, rfl, rfl⟩ := H
            go_enter Tryd.func48, Tryd.ntmps48
            try go_wp2_with (first | ((with_reducible refine d_ 6 ?_); refine X_ 6 #[.int .i64 0, .string (⟨#[]⟩ : ByteArray)] 34 ?_; intro gb532 hg w16 hbox hb; have BK532 := Aside0.mk hbox; have GW532 := Aside0.mk (s_ hg); have GE532 := GW532; have HB := bs_ hb; clear hb hbox hg) | ((with_reducible refine gt_ 83 ?_); refine gd_ 13 Tryd.func83 (keystoneref3_held.calls k _ _ l0 a1 5 t533 _ (Y_ (Kd.C_below HR0.out HB.out)) HC0.out A3.out) ?_; intro w17 hb; have BK532 := kb_ BK532 hb; have HB := bs_ hb; (try clear hb); (try clear hb2); (try clear hk); (try clear hi); have p534 : 0 ≤ (a1 : Int) := of_decide_eq_true A_; have q534 : a1 < (l0.length : Int) := of_decide_eq_true A_; obtain ⟨ad534, e534, hx534_0, hx534_1, hx534_2, hx534_3, hx534_4, hx534_5⟩ := at_T50 HR0.out a1 p534 q534; cases e534; replace hx534_0 := h_ HB hx534_0; replace hx534_1 := h_ HB hx534_1; replace hx534_2 := h_ HB hx534_2; replace hx534_3 := h_ HB hx534_3; replace hx534_4 := h_ HB hx534_4; replace hx534_5 := h_ HB hx534_5; replace p534 := eq_true p534; replace q534 := eq_true q534; have p535 : 0 ≤ (((rd_T50 l0 a1).f5) : Int) := of_decide_eq_true A_; have q535 : ((rd_T50 l0 a1).f5) < (l0.length : Int) := of_decide_eq_true A_; obtain ⟨ad535, e535, hx535_0, hx535_1, hx535_2, hx535_3, hx535_4, hx535_5⟩ := at_T50 HR0.out ((rd_T50 l0 a1).f5) p535 q535; obtain rfl : ad534 = ad535 := (by injection e535); replace hx535_0 := h_ HB hx535_0; replace hx535_1 := h_ HB hx535_1; replace hx535_2 := h_ HB hx535_2; replace hx535_3 := h_ HB hx535_3; replace hx535_4 := h_ HB hx535_4; replace hx535_5 := h_ HB hx535_5; replace p535 := eq_true p535; replace q535 := eq_true q535) | ((with_reducible refine gt_ 84 ?_); refine gd_ 28 Tryd.func84 (keystoneref2_Type.calls k ((rd_T50 l0 ((rd_T50 l0 a1).f5)).f1) t536 t537 t538 _ A9.out) ?_; intro w18 hb; have BK532 := kb_ BK532 hb; have HB := bs_ hb; (try clear hb); (try clear hb2); (try clear hk); (try clear hi)) | ((with_reducible refine d_ 9 ?_); refine X_ 9 #[.int .i64 0, .string (⟨#[]⟩ : ByteArray)] 34 ?_; intro gb539 hg w19 hbox hb; have BK539 := Aside0.mk hbox; have GW539 := Aside0.mk (s_ hg); have GE539 := GW539; have NB532_539 := Aside0.mk (xx_ hg BK532); have BK532 := kb_ BK532 hb; have NB539_532 := Aside0.mk NB532_539.out.symm; have HB := bs_ hb; clear hb hbox hg; have hnb20 := NB539_532.out; have hnc20 := NB532_539.out; obtain ⟨hcz21_0, hcz21_1, hfz21_0, hfz21_1⟩ := c2_ BK539.out))
            have n0_ : Aside0 (((w19.setCell ⟨gb539, 0, none⟩ (.int .i64 t536)).setCell ⟨gb539, 1, none⟩ (.string t537)).heap[gb532]? = some (.cells #[.int .i64 0, .string (⟨#[]⟩ : ByteArray)] 34 (0, 0))) := ⟨P_⟩
            have n1_ : Aside0 (((w19.setCell ⟨gb539, 0, none⟩ (.int .i64 t536)).setCell ⟨gb539, 1, none⟩ (.string t537)).heap[gb539]? = some (.cells #[.int .i64 t536, .string t537] 34 (0, 0))) := ⟨P_⟩
            have n2_ : Aside0 (Below w.heap.size w ((w19.setCell ⟨gb539, 0, none⟩ (.int .i64 t536)).setCell ⟨gb539, 1, none⟩ (.string t537))) := ⟨B_⟩
            (try clear BK532)
            (try clear BK539)
            (try clear HB)
            generalize ((w19.setCell ⟨gb539, 0, none⟩ (.int .i64 t536)).setCell ⟨gb539, 1, none⟩ (.string t537)) = w22 at n0_ n1_ n2_ ⊢
            have BK532 := n0_
            have BK539 := n1_
            have HB := n2_
            clear n0_ n1_ n2_
            have n0_ := Aside0.mk (blk_drew BK532.out)
            have n1_ := Aside0.mk (blk_drew BK539.out)
            have n2_ := Aside0.mk (below_drew1 HB.out)
            clear BK532
            clear BK539
            clear HB
            have BK532 := n0_
            have BK539 := n1_
            have HB := n2_
            clear n0_ n1_ n2_
            have p540 : 0 ≤ (a1 : Int) := of_decide_eq_true A_
            have q540 : a1 < (l0.length : Int) := of_decide_eq_true A_
            obtain ⟨ad540, e540, hx540_0, hx540_1, hx540_2, hx540_3, hx540_4, hx540_5⟩ := at_T50 HR0.out a1 p540 q540
            have hw540_5 := hx540_5
            have hw540_4 := hx540_4
            have hw540_3 := hx540_3
            have hw540_2 := hx540_2
            have hw540_1 := hx540_1
            have hw540_0 := hx540_0
            obtain rfl : ad534 = ad540 := (by injection e540)
            replace hx540_0 := h_ HB hx540_0
            replace hx540_1 := h_ HB hx540_1
            replace hx540_2 := h_ HB hx540_2
            replace hx540_3 := h_ HB hx540_3
            replace hx540_4 := h_ HB hx540_4
            replace hx540_5 := h_ HB hx540_5
            replace p540 := eq_true p540
            replace q540 := eq_true q540
            have p541 : 0 ≤ (((rd_T50 l0 a1).f3) : Int) := of_decide_eq_true A_
            have q541 : ((rd_T50 l0 a1).f3) < (l0.length : Int) := of_decide_eq_true A_
            obtain ⟨ad541, e541, hx541_0, hx541_1, hx541_2, hx541_3, hx541_4, hx541_5⟩ := at_T50 HR0.out ((rd_T50 l0 a1).f3) p541 q541
            have hw541_5 := hx541_5
            have hw541_4 := hx541_4
            have hw541_3 := hx541_3
            have hw541_2 := hx541_2
            have hw541_1 := hx541_1
            have hw541_0 := hx541_0
            obtain rfl : ad534 = ad541 := (by injection e541)
            replace hx541_0 := h_ HB hx541_0
            replace hx541_1 := h_ HB hx541_1
            replace hx541_2 := h_ HB hx541_2
            replace hx541_3 := h_ HB hx541_3
            replace hx541_4 := h_ HB hx541_4
            replace hx541_5 := h_ HB hx541_5
            replace p541 := eq_true p541
            replace q541 := eq_true q541
            have p542 : 0 ≤ (((rd_T50 l0 ((rd_T50 l0 a1).f3)).f3) : Int) := of_decide_eq_true A_
            have q542 : ((rd_T50 l0 ((rd_T50 l0 a1).f3)).f3) < (l0.length : Int) := of_decide_eq_true A_
            obtain ⟨ad542, e542, hx542_0, hx542_1, hx542_2, hx542_3, hx542_4, hx542_5⟩ := at_T50 HR0.out ((rd_T50 l0 ((rd_T50 l0 a1).f3)).f3) p542 q542
            have hw542_5 := hx542_5
            have hw542_4 := hx542_4
            have hw542_3 := hx542_3
            have hw542_2 := hx542_2
            have hw542_1 := hx542_1
            have hw542_0 := hx542_0
            obtain rfl : ad534 = ad542 := (by injection e542)
            replace hx542_0 := h_ HB hx542_0
            replace hx542_1 := h_ HB hx542_1
            replace hx542_2 := h_ HB hx542_2
            replace hx542_3 := h_ HB hx542_3
            replace hx542_4 := h_ HB hx542_4
            replace hx542_5 := h_ HB hx542_5
            replace p542 := eq_true p542
            replace q542 := eq_true q542
            have p543 : 0 ≤ (a1 : Int) := of_decide_eq_true A_
            have q543 : a1 < (l0.length : Int) := of_decide_eq_true A_
            obtain ⟨ad543, e543, hx543_0, hx543_1, hx543_2, hx543_3, hx543_4, hx543_5⟩ := at_T50 HR0.out a1 p543 q543
            have hw543_5 := hx543_5
            have hw543_4 := hx543_4
            have hw543_3 := hx543_3
            have hw543_2 := hx543_2
            have hw543_1 := hx543_1
            have hw543_0 := hx543_0
            obtain rfl : ad534 = ad543 := (by injection e543)
            replace hx543_0 := h_ HB hx543_0
            replace hx543_1 := h_ HB hx543_1
            replace hx543_2 := h_ HB hx543_2
            replace hx543_3 := h_ HB hx543_3
            replace hx543_4 := h_ HB hx543_4
            replace hx543_5 := h_ HB hx543_5
            replace p543 := eq_true p543
            replace q543 := eq_true q543
            have p544 : 0 ≤ (((rd_T50 l0 a1).f4) : Int) := of_decide_eq_true A_
            have q544 : ((rd_T50 l0 a1).f4) < (l0.length : Int) := of_decide_eq_true A_
            obtain ⟨ad544, e544, hx544_0, hx544_1, hx544_2, hx544_3, hx544_4, hx544_5⟩ := at_T50 HR0.out ((rd_T50 l0 a1).f4) p544 q544
            have hw544_5 := hx544_5
            have hw544_4 := hx544_4
            have hw544_3 := hx544_3
            have hw544_2 := hx544_2
            have hw544_1 := hx544_1
            have hw544_0 := hx544_0
            obtain rfl : ad534 = ad544 := (by injection e544)
            replace hx544_0 := h_ HB hx544_0
            replace hx544_1 := h_ HB hx544_1
            replace hx544_2 := h_ HB hx544_2
            replace hx544_3 := h_ HB hx544_3
            replace hx544_4 := h_ HB hx544_4
            replace hx544_5 := h_ HB hx544_5
            replace p544 := eq_true p544
            replace q544 := eq_true q544
            refine start_ (n := 27) (S := fun w' => w'.cell? ⟨gb539, 0, none⟩ = some (.int .i64 t536) ∧ w'.cell? ⟨gb539, 1, none⟩ = some (.string t537) ∧ w'.cell? (ad534.add ((a1).toNat * 6)) = some (.int .i64 ((rd_T50 l0 a1).f0)) ∧ w'.cell? ⟨(ad534.add ((a1).toNat * 6)).block, (ad534.add ((a1).toNat * 6)).off + 1, none⟩ = some (.string ((rd_T50 l0 a1).f1)) ∧ w'.cell? ⟨(ad534.add ((a1).toNat * 6)).block, (ad534.add ((a1).toNat * 6)).off + 2, none⟩ = some (.int .i64 ((rd_T50 l0 a1).f2)) ∧ w'.cell? ⟨(ad534.add ((a1).toNat * 6)).block, (ad534.add ((a1).toNat * 6)).off + 3, none⟩ = some (.int .i64 ((rd_T50 l0 a1).f3)) ∧ w'.cell? ⟨(ad534.add ((a1).toNat * 6)).block, (ad534.add ((a1).toNat * 6)).off + 4, none⟩ = some (.int .i64 ((rd_T50 l0 a1).f4)) ∧ w'.cell? ⟨(ad534.add ((a1).toNat * 6)).block, (ad534.add ((a1).toNat * 6)).off + 5, none⟩ = some (.int .i64 ((rd_T50 l0 a1).f5)) ∧ w'.cell? (ad534.add ((((rd_T50 l0 a1).f3)).toNat * 6)) = some (.int .i64 ((rd_T50 l0 ((rd_T50 l0 a1).f3)).f0)) ∧ w'.cell? ⟨(ad534.add ((((rd_T50 l0 a1).f3)).toNat * 6)).block, (ad534.add ((((rd_T50 l0 a1).f3)).toNat * 6)).off + 1, none⟩ = some (.string ((rd_T50 l0 ((rd_T50 l0 a1).f3)).f1)) ∧ w'.cell? ⟨(ad534.add ((((rd_T50 l0 a1).f3)).toNat * 6)).block, (ad534.add ((((rd_T50 l0 a1).f3)).toNat * 6)).off + 2, none⟩ = some (.int .i64 ((rd_T50 l0 ((rd_T50 l0 a1).f3)).f2)) ∧ w'.cell? ⟨(ad534.add ((((rd_T50 l0 a1).f3)).toNat * 6)).block, (ad534.add ((((rd_T50 l0 a1).f3)).toNat * 6)).off + 3, none⟩ = some (.int .i64 ((rd_T50 l0 ((rd_T50 l0 a1).f3)).f3)) ∧ w'.cell? ⟨(ad534.add ((((rd_T50 l0 a1).f3)).toNat * 6)).block, (ad534.add ((((rd_T50 l0 a1).f3)).toNat * 6)).off + 4, none⟩ = some (.int .i64 ((rd_T50 l0 ((rd_T50 l0 a1).f3)).f4)) ∧ w'.cell? ⟨(ad534.add ((((rd_T50 l0 a1).f3)).toNat * 6)).block, (ad534.add ((((rd_T50 l0 a1).f3)).toNat * 6)).off + 5, none⟩ = some (.int .i64 ((rd_T50 l0 ((rd_T50 l0 a1).f3)).f5)) ∧ w'.cell? (ad534.add ((((rd_T50 l0 ((rd_T50 l0 a1).f3)).f3)).toNat * 6)) = some (.int .i64 ((rd_T50 l0 ((rd_T50 l0 ((rd_T50 l0 a1).f3)).f3)).f0)) ∧ w'.cell? ⟨(ad534.add ((((rd_T50 l0 ((rd_T50 l0 a1).f3)).f3)).toNat * 6)).block, (ad534.add ((((rd_T50 l0 ((rd_T50 l0 a1).f3)).f3)).toNat * 6)).off + 1, none⟩ = some (.string ((rd_T50 l0 ((rd_T50 l0 ((rd_T50 l0 a1).f3)).f3)).f1)) ∧ w'.cell? ⟨(ad534.add ((((rd_T50 l0 ((rd_T50 l0 a1).f3)).f3)).toNat * 6)).block, (ad534.add ((((rd_T50 l0 ((rd_T50 l0 a1).f3)).f3)).toNat * 6)).off + 2, none⟩ = some (.int .i64 ((rd_T50 l0 ((rd_T50 l0 ((rd_T50 l0 a1).f3)).f3)).f2)) ∧ w'.cell? ⟨(ad534.add ((((rd_T50 l0 ((rd_T50 l0 a1).f3)).f3)).toNat * 6)).block, (ad534.add ((((rd_T50 l0 ((rd_T50 l0 a1).f3)).f3)).toNat * 6)).off + 3, none⟩ = some (.int .i64 ((rd_T50 l0 ((rd_T50 l0 ((rd_T50 l0 a1).f3)).f3)).f3)) ∧ w'.cell? ⟨(ad534.add ((((rd_T50 l0 ((rd_T50 l0 a1).f3)).f3)).toNat * 6)).block, (ad534.add ((((rd_T50 l0 ((rd_T50 l0 a1).f3)).f3)).toNat * 6)).off + 4, none⟩ = some (.int .i64 ((rd_T50 l0 ((rd_T50 l0 ((rd_T50 l0 a1).f3)).f3)).f4)) ∧ w'.cell? ⟨(ad534.add ((((rd_T50 l0 ((rd_T50 l0 a1).f3)).f3)).toNat * 6)).block, (ad534.add ((((rd_T50 l0 ((rd_T50 l0 a1).f3)).f3)).toNat * 6)).off + 5, none⟩ = some (.int .i64 ((rd_T50 l0 ((rd_T50 l0 ((rd_T50 l0 a1).f3)).f3)).f5)) ∧ w'.cell? (ad534.add ((a1).toNat * 6)) = some (.int .i64 ((rd_T50 l0 a1).f0)) ∧ w'.cell? ⟨(ad534.add ((a1).toNat * 6)).block, (ad534.add ((a1).toNat * 6)).off + 1, none⟩ = some (.string ((rd_T50 l0 a1).f1)) ∧ w'.cell? ⟨(ad534.add ((a1).toNat * 6)).block, (ad534.add ((a1).toNat * 6)).off + 2, none⟩ = some (.int .i64 ((rd_T50 l0 a1).f2)) ∧ w'.cell? ⟨(ad534.add ((a1).toNat * 6)).block, (ad534.add ((a1).toNat * 6)).off + 3, none⟩ = some (.int .i64 ((rd_T50 l0 a1).f3)) ∧ w'.cell? ⟨(ad534.add ((a1).toNat * 6)).block, (ad534.add ((a1).toNat * 6)).off + 4, none⟩ = some (.int .i64 ((rd_T50 l0 a1).f4)) ∧ w'.cell? ⟨(ad534.add ((a1).toNat * 6)).block, (ad534.add ((a1).toNat * 6)).off + 5, none⟩ = some (.int .i64 ((rd_T50 l0 a1).f5)) ∧ w'.cell? (ad534.add ((((rd_T50 l0 a1).f4)).toNat * 6)) = some (.int .i64 ((rd_T50 l0 ((rd_T50 l0 a1).f4)).f0)) ∧ w'.cell? ⟨(ad534.add ((((rd_T50 l0 a1).f4)).toNat * 6)).block, (ad534.add ((((rd_T50 l0 a1).f4)).toNat * 6)).off + 1, none⟩ = some (.string ((rd_T50 l0 ((rd_T50 l0 a1).f4)).f1)) ∧ w'.cell? ⟨(ad534.add ((((rd_T50 l0 a1).f4)).toNat * 6)).block, (ad534.add ((((rd_T50 l0 a1).f4)).toNat * 6)).off + 2, none⟩ = some (.int .i64 ((rd_T50 l0 ((rd_T50 l0 a1).f4)).f2)) ∧ w'.cell? ⟨(ad534.add ((((rd_T50 l0 a1).f4)).toNat * 6)).block, (ad534.add ((((rd_T50 l0 a1).f4)).toNat * 6)).off + 3, none⟩ = some (.int .i64 ((rd_T50 l0 ((rd_T50 l0 a1).f4)).f3)) ∧ w'.cell? ⟨(ad534.add ((((rd_T50 l0 a1).f4)).toNat * 6)).block, (ad534.add ((((rd_T50 l0 a1).f4)).toNat * 6)).off + 4, none⟩ = some (.int .i64 ((rd_T50 l0 ((rd_T50 l0 a1).f4)).f4)) ∧ w'.cell? ⟨(ad534.add ((((rd_T50 l0 a1).f4)).toNat * 6)).block, (ad534.add ((((rd_T50 l0 a1).f4)).toNat * 6)).off + 5, none⟩ = some (.int .i64 ((rd_T50 l0 ((rd_T50 l0 a1).f4)).f5))) (ds := []) #[false, false, false, false, false, false, false, false, false, false, false, false, false, false, false, false, false, false, false, false, false, false, false, false, false, false, false] (by kernel_rfl) rfl rfl ⟨(blk_cell BK539.out 0).trans rfl, (blk_cell BK539.out 1).trans rfl, ((HB.out.cell (World.block_lt_of_cell? w _ hw540_0)).trans hw540_0), ((HB.out.cell (World.block_lt_of_cell? w _ hw540_1)).trans hw540_1), ((HB.out.cell (World.block_lt_of_cell? w _ hw540_2)).trans hw540_2), ((HB.out.cell (World.block_lt_of_cell? w _ hw540_3)).trans hw540_3), ((HB.out.cell (World.block_lt_of_cell? w _ hw540_4)).trans hw540_4), ((HB.out.cell (World.block_lt_of_cell? w _ hw540_5)).trans hw540_5), ((HB.out.cell (World.block_lt_of_cell? w _ hw541_0)).trans hw541_0), ((HB.out.cell (World.block_lt_of_cell? w _ hw541_1)).trans hw541_1), ((HB.out.cell (World.block_lt_of_cell? w _ hw541_2)).trans hw541_2), ((HB.out.cell (World.block_lt_of_cell? w _ hw541_3)).trans hw541_3), ((HB.out.cell (World.block_lt_of_cell? w _ hw541_4)).trans hw541_4), ((HB.out.cell (World.block_lt_of_cell? w _ hw541_5)).trans hw541_5), ((HB.out.cell (World.block_lt_of_cell? w _ hw542_0)).trans hw542_0), ((HB.out.cell (World.block_lt_of_cell? w _ hw542_1)).trans hw542_1), ((HB.out.cell (World.block_lt_of_cell? w _ hw542_2)).trans hw542_2), ((HB.out.cell (World.block_lt_of_cell? w _ hw542_3)).trans hw542_3), ((HB.out.cell (World.block_lt_of_cell? w _ hw542_4)).trans hw542_4), ((HB.out.cell (World.block_lt_of_cell? w _ hw542_5)).trans hw542_5), ((HB.out.cell (World.block_lt_of_cell? w _ hw543_0)).trans hw543_0), ((HB.out.cell (World.block_lt_of_cell? w _ hw543_1)).trans hw543_1), ((HB.out.cell (World.block_lt_of_cell? w _ hw543_2)).trans hw543_2), ((HB.out.cell (World.block_lt_of_cell? w _ hw543_3)).trans hw543_3), ((HB.out.cell (World.block_lt_of_cell? w _ hw543_4)).trans hw543_4), ((HB.out.cell (World.block_lt_of_cell? w _ hw543_5)).trans hw543_5), ((HB.out.cell (World.block_lt_of_cell? w _ hw544_0)).trans hw544_0), ((HB.out.cell (World.block_lt_of_cell? w _ hw544_1)).trans hw544_1), ((HB.out.cell (World.block_lt_of_cell? w _ hw544_2)).trans hw544_2), ((HB.out.cell (World.block_lt_of_cell? w _ hw544_3)).trans hw544_3), ((HB.out.cell (World.block_lt_of_cell? w _ hw544_4)).trans hw544_4), ((HB.out.cell (World.block_lt_of_cell? w _ hw544_5)).trans hw544_5)⟩ (fun hHeld => ?_); refine with_tabW keystoneref3_Field.tab5 keystoneref3_Field.bits5 (fun HT_ HW_ => ?_)
            generalize w22.drew = w23 at BK532 BK539 HB hx540_0 hx540_1 hx540_2 hx540_3 hx540_4 hx540_5 hx541_0 hx541_1 hx541_2 hx541_3 hx541_4 hx541_5 hx542_0 hx542_1 hx542_2 hx542_3 hx542_4 hx542_5 hx543_0 hx543_1 hx543_2 hx543_3 hx543_4 hx543_5 hx544_0 hx544_1 hx544_2 hx544_3 hx544_4 hx544_5 hHeld ⊢
            refine u_ 0 31 (bb 27 1) ?_
            refine u_ 1 32 (bb 27 3) ?_
            refine u_ 2 33 (bb 27 7) ?_
            refine u_ 3 34 (bb 27 15) ?_
            refine u_ 4 35 (bb 27 31) ?_
            refine u_ 5 36 (bb 27 63) ?_
            refine u_ 13 44 (bb 27 8255) ?_
            refine u_ 14 45 (bb 27 24639) ?_
            refine u_ 15 46 (bb 27 57407) ?_
            refine u_ 16 47 (bb 27 122943) ?_
            refine u_ 17 48 (bb 27 254015) ?_
            refine t_ 6 37 (bb 27 254079) ?_
            refine u_ 7 38 (bb 27 254207) ?_
            refine u_ 8 39 (bb 27 254463) ?_
            refine t_ 9 40 (bb 27 254975) ?_
            refine u_ 10 41 (bb 27 255999) ?_
            refine u_ 11 42 (bb 27 258047) ?_
            refine t_ 12 43 (bb 27 262143) ?_
            refine u_ 23 4 (bb 27 8650751) ?_
            refine t_ 18 49 (bb 27 8912895) ?_
            refine u_ 19 50 (bb 27 9437183) ?_
            refine u_ 20 51 (bb 27 10485759) ?_
            refine t_ 21 52 (bb 27 12582911) ?_
            refine u_ 24 5 (bb 27 29360127) ?_
            refine t_ 22 53 (bb 27 33554431) ?_
            refine one_ (i := 25) (N := none) #[true, true, true, true, true, true, true, true, true, true, true, true, true, true, true, true, true, true, true, true, true, true, true, true, true, true, false] rfl rfl (one_of HT_.out (by kernel_rfl)) (by decide) (fun K hK => ?_)
            have hs24 : w23.cell? ⟨gb532, 0, none⟩ = some (.int .i64 0) := (blk_cell BK532.out 0).trans rfl
            have hfs24 := blk_frozen BK532.out 0
            have hns24_1 := NB539_532.out
            have hms24_1 := NB532_539.out
            have hs25 : w23.cell? ⟨gb532, 1, none⟩ = some (.string (⟨#[]⟩ : ByteArray)) := (blk_cell BK532.out 1).trans rfl
            have hfs25 := blk_frozen BK532.out 1
            have hns25_1 := NB539_532.out
            have hms25_1 := NB532_539.out
            refine skip_ (w1 := ?_) (by rfl) rfl ?_ ?_
            rotate_left
            ·
             go_simp
             rfl
            refine hK.out _ _ (S_ hHeld) (fun hHeld => ?_)
            clear hK K
            refine u_ 26 7 (bb 27 134217727) ?_
            refine done_ (done_of HT_.out (by kernel_rfl)) ?_
            try go_wp2
            refine bodyPost_ret (results_list (rs := [.tmp 4, .tmp 5, .cell 6 34, .tmp 7]) rfl (by simp) (.tmp (.tmp (.cell gb532 34 #[.int .i64 t536, .string t537] (0, 0) _ rfl P_ Tryd.underlying34 rfl (by kernel_rfl) (.tmp .nil))))) rfl ?_
            exact ⟨E_, B_⟩
           ·
            rw [if_neg c15] at H
            exact absurd H (by simp)
          ·
           rw [if_neg c14] at H
           exact absurd H (by simp)
         ·
          rw [if_neg c13] at H
          exact absurd H (by simp)
        ·
         rw [if_neg c12] at H
         exact absurd H (by simp)
       ·
        rw [if_neg c11] at H
        exact absurd H (by simp)
      ·
       rw [if_neg c10] at H
       exact absurd H (by simp)
     ·
      rw [if_neg c8] at H
      exact absurd H (by simp)
    ·
     rw [if_neg c7] at H
     exact absurd H (by simp)
   ·
    rw [if_neg c6] at H
    exact absurd H (by simp)
  ·
   rw [if_neg c5] at H
   exact absurd H (by simp)
 ·
  rw [if_neg c4] at H
  have c4b0 : (t533 == 0) = false := beq_eq_false_iff_ne.mpr c4
  have c4b1 : (t533 != 0) = true := bne_iff_ne.mpr c4
  simp only [Option.some.injEq, Prod.mk.injEq] at H
  obtain ⟨rfl, rfl, rfl, rfl, rfl⟩ := H
  go_enter Tryd.func48, Tryd.ntmps48
  go_wp2_with (first | ((with_reducible refine d_ 6 ?_); refine X_ 6 #[.int .i64 0, .string (⟨#[]⟩ : ByteArray)] 34 ?_; intro gb532 hg w26 hbox hb; have BK532 := Aside0.mk hbox; have GW532 := Aside0.mk (s_ hg); have GE532 := GW532; have HB := bs_ hb; clear hb hbox hg) | ((with_reducible refine gt_ 83 ?_); refine gd_ 13 Tryd.func83 (keystoneref3_held.calls k _ _ l0 a1 5 t533 _ (Y_ (Kd.C_below HR0.out HB.out)) HC0.out A3.out) ?_; intro w27 hb; have BK532 := kb_ BK532 hb; have HB := bs_ hb; (try clear hb); (try clear hb2); (try clear hk); (try clear hi); obtain ⟨hcz28_0, hcz28_1, hfz28_0, hfz28_1⟩ := c2_ BK532.out))
  refine bodyPost_ret (results_list (rs := [.tmp 4, .tmp 5, .cell 6 34, .tmp 7]) rfl (by simp) (.tmp (.tmp (.cell gb532 34 #[.int .i64 0, .string (⟨#[]⟩ : ByteArray)] (0, 0) _ rfl P_ Tryd.underlying34 rfl (by kernel_rfl) (.tmp .nil))))) rfl ?_
  exact ⟨E_, B_⟩
def keystoneref3_Method.f (k : Nat) (l0 : List (S50)) (a1 : Int) : Option (ByteArray × ByteArray × (List (S34)) × Bool × Int × ByteArray × Int) := (keystoneref3_held.f k l0 a1 6).bind fun t546 => (if t546 = 0 then (if 0 ≤ a1 then (if a1 < (l0.length : Int) then (if 0 ≤ ((rd_T50 l0 a1).f5) then (if ((rd_T50 l0 a1).f5) < (l0.length : Int) then ((keystoneref2_Sig.f k ((rd_T50 l0 ((rd_T50 l0 a1).f5)).f1)).bind fun bt549 => (if 0 ≤ ((rd_T50 l0 a1).f3) then (if ((rd_T50 l0 a1).f3) < (l0.length : Int) then (if 0 ≤ ((rd_T50 l0 ((rd_T50 l0 a1).f3)).f3) then (if ((rd_T50 l0 ((rd_T50 l0 a1).f3)).f3) < (l0.length : Int) then (if 0 ≤ ((rd_T50 l0 a1).f4) then (if ((rd_T50 l0 a1).f4) < (l0.length : Int) then (some ((rd_T50 l0 ((rd_T50 l0 ((rd_T50 l0 a1).f3)).f3)).f1, (rd_T50 l0 ((rd_T50 l0 a1).f4)).f1, bt549.1, bt549.2.1, bt549.2.2.1, bt549.2.2.2.1, 0)) else (none)) else (none)) else (none)) else (none)) else (none)) else (none))) else (none)) else (none)) else (none)) else (none)) else (some ((⟨#[]⟩ : ByteArray), (⟨#[]⟩ : ByteArray), ([] : List (S34)), false, 0, (⟨#[]⟩ : ByteArray), t546)))
theorem keystoneref3_Method.mono : ∀ a0 a1 k, LeO (keystoneref3_Method.f k a0 a1) (keystoneref3_Method.f (k + 1) a0 a1) := by
 intro a0 a1 k
 unfold keystoneref3_Method.f
 repeat' first
  | (with_reducible exact keystoneref2_Sig.mono _ _)
  | (with_reducible exact keystoneref3_held.mono _ _ _ _)
  | (with_reducible exact LeO.refl _)
  | (with_reducible exact LeO.none _)
  | (with_reducible refine LeO.ite ?_ ?_)
  | (with_reducible refine LeO.bind ?_ (fun _ => ?_))
  | exact keystoneref2_Sig.mono _ _
  | exact keystoneref3_held.mono _ _ _ _
  | exact LeO.none _
  | refine LeO.ite ?_ ?_
  | refine LeO.bind ?_ (fun _ => ?_)
def keystoneref3_Method.T5 : Bool × List (List Nat × List Nat) := (true, [([], []), ([], []), ([], []), ([], []), ([2, 3], [2, 3]), ([4], [4]), ([5], [5]), ([1, 6], [1, 6]), ([7], [7]), ([8], [8]), ([0, 9], [0, 9]), ([10], [10]), ([11], [11]), ([], []), ([], []), ([], []), ([14, 15], [14, 15]), ([16], [16]), ([17], [17]), ([13, 18], [13, 18]), ([19], [19]), ([20], [20]), ([], []), ([12, 0, 1, 2, 3, 4, 5, 6, 7, 8, 9, 10, 11, 12], [12]), ([21, 23, 0, 1, 2, 3, 4, 5, 6, 7, 8, 9, 10, 11, 12, 13, 14, 15, 16, 17, 18, 19, 20, 21, 23], [21]), ([22, 24, 0, 1, 2, 3, 4, 5, 6, 7, 8, 9, 10, 11, 12, 13, 14, 15, 16, 17, 18, 19, 20, 21, 22, 23, 24], [22]), ([25, 0, 1, 2, 3, 4, 5, 6, 7, 8, 9, 10, 11, 12, 13, 14, 15, 16, 17, 18, 19, 20, 21, 22, 23, 24, 25], [])])
def keystoneref3_Method.B5 : List Nat := [0, 0, 0, 0, 12, 28, 60, 126, 254, 510, 1023, 2047, 4095, 0, 0, 0, 49152, 114688, 245760, 516096, 1040384, 2088960, 0, 8191, 12582911, 33554431, 67108863]
theorem keystoneref3_Method.tab5 : rtab .any (opsOf Tryd.f49 5) = keystoneref3_Method.T5 := by kernel_rfl
theorem keystoneref3_Method.bits5 : waitsOk keystoneref3_Method.T5.2 keystoneref3_Method.B5 = true := by kernel_rfl
set_option maxHeartbeats 8000000 in
set_option maxRecDepth 100000 in
theorem keystoneref3_Method.calls (k : Nat) (A0 : Option Addr) (c0 : Nat) (l0 : List (S50)) (a1 : Int) (r1 : ByteArray) (r2 : ByteArray) (r3 : List (S34)) (r4 : Bool) (r5 : Int) (r6 : ByteArray) (r7 : Int) (w : World) (hr0 : Kd.C k50 w A0 l0.length l0) (hc0 : l0.length ≤ c0) (h : keystoneref3_Method.f k l0 a1 = some (r1, r2, r3, r4, r5, r6, r7)) :
 Calls Tryd.prog 49 #[.slice A0 l0.length c0, .int .i64 a1] w fun e w' => ∃ v2_ : Value, e = .returned (.tuple #[.string r1, .string r2, .agg #[v2_, .bool r4, .int .i64 r5, .string r6], .int .i64 r7]) ∧ Kd.R k34 34 w' w.heap.size (fun _ => True) v2_ r3 ∧ Below w.heap.size w w' := by
 have hu39 := Tryd.underlying39
 have HR0 := Aside0.mk hr0
 have HC0 := Aside0.mk hc0
 clear hr0 hc0
 have HB := Aside0.mk (Below.refl w.heap.size w)
 have H : ((keystoneref3_held.f k l0 a1 6).bind fun t546 => (if t546 = 0 then (if 0 ≤ a1 then (if a1 < (l0.length : Int) then (if 0 ≤ ((rd_T50 l0 a1).f5) then (if ((rd_T50 l0 a1).f5) < (l0.length : Int) then ((keystoneref2_Sig.f k ((rd_T50 l0 ((rd_T50 l0 a1).f5)).f1)).bind fun bt549 => (if 0 ≤ ((rd_T50 l0 a1).f3) then (if ((rd_T50 l0 a1).f3) < (l0.length : Int) then (if 0 ≤ ((rd_T50 l0 ((rd_T50 l0 a1).f3)).f3) then (if ((rd_T50 l0 ((rd_T50 l0 a1).f3)).f3) < (l0.length : Int) then (if 0 ≤ ((rd_T50 l0 a1).f4) then (if ((rd_T50 l0 a1).f4) < (l0.length : Int) then (some ((rd_T50 l0 ((rd_T50 l0 ((rd_T50 l0 a1).f3)).f3)).f1, (rd_T50 l0 ((rd_T50 l0 a1).f4)).f1, bt549.1, bt549.2.1, bt549.2.2.1, bt549.2.2.2.1, 0)) else (none)) else (none)) else (none)) else (none)) else (none)) else (none))) else (none)) else (none)) else (none)) else (none)) else (some ((⟨#[]⟩ : ByteArray), (⟨#[]⟩ : ByteArray), ([] : List (S34)), false, 0, (⟨#[]⟩ : ByteArray), t546)))) = some (r1, r2, r3, r4, r5, r6, r7) := h
 clear h
 replace H := Option.bind_eq_some_iff.mp H
 obtain ⟨t546, A30, H⟩ := H
 replace H : (if t546 = 0 then (if 0 ≤ a1 then (if a1 < (l0.length : Int) then (if 0 ≤ ((rd_T50 l0 a1).f5) then (if ((rd_T50 l0 a1).f5) < (l0.length : Int) then ((keystoneref2_Sig.f k ((rd_T50 l0 ((rd_T50 l0 a1).f5)).f1)).bind fun bt549 => (if 0 ≤ ((rd_T50 l0 a1).f3) then (if ((rd_T50 l0 a1).f3) < (l0.length : Int) then (if 0 ≤ ((rd_T50 l0 ((rd_T50 l0 a1).f3)).f3) then (if ((rd_T50 l0 ((rd_T50 l0 a1).f3)).f3) < (l0.length : Int) then (if 0 ≤ ((rd_T50 l0 a1).f4) then (if ((rd_T50 l0 a1).f4) < (l0.length : Int) then (some ((rd_T50 l0 ((rd_T50 l0 ((rd_T50 l0 a1).f3)).f3)).f1, (rd_T50 l0 ((rd_T50 l0 a1).f4)).f1, bt549.1, bt549.2.1, bt549.2.2.1, bt549.2.2.2.1, 0)) else (none)) else (none)) else (none)) else (none)) else (none)) else (none))) else (none)) else (none)) else (none)) else (none)) else (some ((⟨#[]⟩ : ByteArray), (⟨#[]⟩ : ByteArray), ([] : List (S34)), false, 0, (⟨#[]⟩ : ByteArray), t546))) = some (r1, r2, r3, r4, r5, r6, r7) := H
 have A3 := Aside0.mk A30
 clear A30
 by_cases c4 : t546 = 0
 ·
  rw [if_pos c4] at H
  have c4b0 : (t546 == 0) = true := beq_iff_eq.mpr c4
  have c4b1 : (t546 != 0) = false := bne_eq_false_iff_eq.mpr c4
  clear c4
  by_cases c5 : 0 ≤ a1
  ·
   rw [if_pos c5] at H
   have c5b0 : decide (0 ≤ a1) = true := decide_eq_true c5
   clear c5
   by_cases c6 : a1 < (l0.length : Int)
   ·
    rw [if_pos c6] at H
    have c6b0 : decide (a1 < (l0.length : Int)) = true := decide_eq_true c6
    clear c6
    by_cases c7 : 0 ≤ ((rd_T50 l0 a1).f5)
    ·
     rw [if_pos c7] at H
     have c7b0 : decide (0 ≤ ((rd_T50 l0 a1).f5)) = true := decide_eq_true c7
     clear c7
     by_cases c8 : ((rd_T50 l0 a1).f5) < (l0.length : Int)
     ·
      rw [if_pos c8] at H
      have c8b0 : decide (((rd_T50 l0 a1).f5) < (l0.length : Int)) = true := decide_eq_true c8
      clear c8
      replace H := Option.bind_eq_some_iff.mp H
      obtain ⟨⟨t549, t552, t553, t554, t555⟩, A90, H⟩ := H
      replace H : (if 0 ≤ ((rd_T50 l0 a1).f3) then (if ((rd_T50 l0 a1).f3) < (l0.length : Int) then (if 0 ≤ ((rd_T50 l0 ((rd_T50 l0 a1).f3)).f3) then (if ((rd_T50 l0 ((rd_T50 l0 a1).f3)).f3) < (l0.length : Int) then (if 0 ≤ ((rd_T50 l0 a1).f4) then (if ((rd_T50 l0 a1).f4) < (l0.length : Int) then (some ((rd_T50 l0 ((rd_T50 l0 ((rd_T50 l0 a1).f3)).f3)).f1, (rd_T50 l0 ((rd_T50 l0 a1).f4)).f1, t549, t552, t553, t554, 0)) else (none)) else (none)) else (none)) else (none)) else (none)) else (none)) = some (r1, r2, r3, r4, r5, r6, r7) := H
      have A9 := Aside0.mk A90
      clear A90
      by_cases c10 : 0 ≤ ((rd_T50 l0 a1).f3)
      ·
       rw [if_pos c10] at H
       have c10b0 : decide (0 ≤ ((rd_T50 l0 a1).f3)) = true := decide_eq_true c10
       clear c10
       by_cases c11 : ((rd_T50 l0 a1).f3) < (l0.length : Int)
       ·
        rw [if_pos c11] at H
        have c11b0 : decide (((rd_T50 l0 a1).f3) < (l0.length : Int)) = true := decide_eq_true c11
        clear c11
        by_cases c12 : 0 ≤ ((rd_T50 l0 ((rd_T50 l0 a1).f3)).f3)
        ·
         rw [if_pos c12] at H
         have c12b0 : decide (0 ≤ ((rd_T50 l0 ((rd_T50 l0 a1).f3)).f3)) = true := decide_eq_true c12
         clear c12
         by_cases c13 : ((rd_T50 l0 ((rd_T50 l0 a1).f3)).f3) < (l0.length : Int)
         ·
          rw [if_pos c13] at H
          have c13b0 : decide (((rd_T50 l0 ((rd_T50 l0 a1).f3)).f3) < (l0.length : Int)) = true := decide_eq_true c13
          clear c13
          by_cases c14 : 0 ≤ ((rd_T50 l0 a1).f4)
          ·
           rw [if_pos c14] at H
           have c14b0 : decide (0 ≤ ((rd_T50 l0 a1).f4)) = true := decide_eq_true c14
           clear c14
           by_cases c15 : ((rd_T50 l0 a1).f4) < (l0.length : Int)
           ·
            rw [if_pos c15] at H
            have c15b0 : decide (((rd_T50 l0 a1).f4) < (l0.length : Int)) = true := decide_eq_true c15
            clear c15
            simp only [Option.some.injEq, Prod.mk.injEq] at H
            obtain ⟨rfl, rfl, rfl, rfl, rfl, rfl, rfl⟩ := H
            go_enter Tryd.func49, Tryd.ntmps49
            try go_wp2_with (first | ((with_reducible refine d_ 6 ?_); refine X_ 6 #[.slice none 0 0, .bool false, .int .i64 0, .string (⟨#[]⟩ : ByteArray)] 39 ?_; intro gb545 hg w16 hbox hb; have BK545 := Aside0.mk hbox; have GW545 := Aside0.mk (s_ hg); have GE545 := GW545; have HB := bs_ hb; clear hb hbox hg) | ((with_reducible refine gt_ 83 ?_); refine gd_ 13 Tryd.func83 (keystoneref3_held.calls k _ _ l0 a1 6 t546 _ (Y_ (Kd.C_below HR0.out HB.out)) HC0.out A3.out) ?_; intro w17 hb; have BK545 := kb_ BK545 hb; have HB := bs_ hb; (try clear hb); (try clear hb2); (try clear hk); (try clear hi); have p547 : 0 ≤ (a1 : Int) := of_decide_eq_true A_; have q547 : a1 < (l0.length : Int) := of_decide_eq_true A_; obtain ⟨ad547, e547, hx547_0, hx547_1, hx547_2, hx547_3, hx547_4, hx547_5⟩ := at_T50 HR0.out a1 p547 q547; cases e547; replace hx547_0 := h_ HB hx547_0; replace hx547_1 := h_ HB hx547_1; replace hx547_2 := h_ HB hx547_2; replace hx547_3 := h_ HB hx547_3; replace hx547_4 := h_ HB hx547_4; replace hx547_5 := h_ HB hx547_5; replace p547 := eq_true p547; replace q547 := eq_true q547; have p548 : 0 ≤ (((rd_T50 l0 a1).f5) : Int) := of_decide_eq_true A_; have q548 : ((rd_T50 l0 a1).f5) < (l0.length : Int) := of_decide_eq_true A_; obtain ⟨ad548, e548, hx548_0, hx548_1, hx548_2, hx548_3, hx548_4, hx548_5⟩ := at_T50 HR0.out ((rd_T50 l0 a1).f5) p548 q548; obtain rfl : ad547 = ad548 := (by injection e548); replace hx548_0 := h_ HB hx548_0; replace hx548_1 := h_ HB hx548_1; replace hx548_2 := h_ HB hx548_2; replace hx548_3 := h_ HB hx548_3; replace hx548_4 := h_ HB hx548_4; replace hx548_5 := h_ HB hx548_5; replace p548 := eq_true p548; replace q548 := eq_true q548) | ((with_reducible refine gt_ 85 ?_); refine gc_ 28 Tryd.func85 #[.string ((rd_T50 l0 ((rd_T50 l0 a1).f5)).f1)] ?_; (with_reducible refine (keystoneref2_Sig.calls k ((rd_T50 l0 ((rd_T50 l0 a1).f5)).f1) t549 t552 t553 t554 t555 _ A9.out).mono ?_); rintro e w18 ⟨v550, rfl, ho0, hb⟩; refine ⟨_, rfl, ?_⟩; have HO551 := Aside0.mk (Kd.R_lower ho0 (below_size B_)); have BK545 := kb_ BK545 hb; have HB := bs_ hb; (try clear hb); (try clear hb2); (try clear hk); (try clear hi); (try clear ho0)) | ((with_reducible refine d_ 9 ?_); refine X_ 9 #[.slice none 0 0, .bool false, .int .i64 0, .string (⟨#[]⟩ : ByteArray)] 39 ?_; intro gb556 hg w19 hbox hb; have HO551 := rb_ HO551 hb; have BK556 := Aside0.mk hbox; have GW556 := Aside0.mk (s_ hg); have GE556 := GW556; have NB545_556 := Aside0.mk (xx_ hg BK545); have BK545 := kb_ BK545 hb; have NB556_545 := Aside0.mk NB545_556.out.symm; have HB := bs_ hb; clear hb hbox hg; obtain ⟨Ao20, co20, eo20⟩ := Kd.R_slice HO551.out; subst eo20; have hnb21 := NB556_545.out; have hnc21 := NB545_556.out; obtain ⟨hcz22_0, hcz22_1, hcz22_2, hcz22_3, hfz22_0, hfz22_1, hfz22_2, hfz22_3⟩ := c4_ BK556.out))
            have n0_ : Aside0 (Kd.R k34 34 ((((w19.setCell ⟨gb556, 0, none⟩ (.slice Ao20 t549.length co20)).setCell ⟨gb556, 1, none⟩ (.bool t552)).setCell ⟨gb556, 2, none⟩ (.int .i64 t553)).setCell ⟨gb556, 3, none⟩ (.string t554)) w.heap.size (fun _ => True) (.slice Ao20 t549.length co20) t549) := ⟨by (with_reducible repeat (first | apply Kd.R_alloc | apply Kd.R_drewN | apply Kd.R_drew)); exact Kd.R_mono (Kd.R_far (p := ⟨gb556, 3, none⟩) (Kd.R_far (p := ⟨gb556, 2, none⟩) (Kd.R_far (p := ⟨gb556, 1, none⟩) (Kd.R_far (p := ⟨gb556, 0, none⟩) (Kd.R_types HO551.out BK556.out (by decide)) (fun _ hk => hk.2) (.slice Ao20 t549.length co20)) (fun _ hk => hk.2) (.bool t552)) (fun _ hk => hk.2) (.int .i64 t553)) (fun _ hk => hk.2) (.string t554)) (fun _ hk => trivial)⟩
            have n1_ : Aside0 (((((w19.setCell ⟨gb556, 0, none⟩ (.slice Ao20 t549.length co20)).setCell ⟨gb556, 1, none⟩ (.bool t552)).setCell ⟨gb556, 2, none⟩ (.int .i64 t553)).setCell ⟨gb556, 3, none⟩ (.string t554)).heap[gb545]? = some (.cells #[.slice none 0 0, .bool false, .int .i64 0, .string (⟨#[]⟩ : ByteArray)] 39 (0, 0))) := ⟨P_⟩
            have n2_ : Aside0 (((((w19.setCell ⟨gb556, 0, none⟩ (.slice Ao20 t549.length co20)).setCell ⟨gb556, 1, none⟩ (.bool t552)).setCell ⟨gb556, 2, none⟩ (.int .i64 t553)).setCell ⟨gb556, 3, none⟩ (.string t554)).heap[gb556]? = some (.cells #[.slice Ao20 t549.length co20, .bool t552, .int .i64 t553, .string t554] 39 (0, 0))) := ⟨P_⟩
            have n3_ : Aside0 (Below w.heap.size w ((((w19.setCell ⟨gb556, 0, none⟩ (.slice Ao20 t549.length co20)).setCell ⟨gb556, 1, none⟩ (.bool t552)).setCell ⟨gb556, 2, none⟩ (.int .i64 t553)).setCell ⟨gb556, 3, none⟩ (.string t554))) := ⟨B_⟩
            (try clear HO551)
            (try clear BK545)
            (try clear BK556)
            (try clear HB)
            generalize ((((w19.setCell ⟨gb556, 0, none⟩ (.slice Ao20 t549.length co20)).setCell ⟨gb556, 1, none⟩ (.bool t552)).setCell ⟨gb556, 2, none⟩ (.int .i64 t553)).setCell ⟨gb556, 3, none⟩ (.string t554)) = w23 at n0_ n1_ n2_ n3_ ⊢
            have HO551 := n0_
            have BK545 := n1_
            have BK556 := n2_
            have HB := n3_
            clear n0_ n1_ n2_ n3_
            have n0_ := Aside0.mk (Kd.R_drew HO551.out)
            have n1_ := Aside0.mk (blk_drew BK545.out)
            have n2_ := Aside0.mk (blk_drew BK556.out)
            have n3_ := Aside0.mk (below_drew1 HB.out)
            clear HO551
            clear BK545
            clear BK556
            clear HB
            have HO551 := n0_
            have BK545 := n1_
            have BK556 := n2_
            have HB := n3_
            clear n0_ n1_ n2_ n3_
            have p557 : 0 ≤ (a1 : Int) := of_decide_eq_true A_
            have q557 : a1 < (l0.length : Int) := of_decide_eq_true A_
            obtain ⟨ad557, e557, hx557_0, hx557_1, hx557_2, hx557_3, hx557_4, hx557_5⟩ := at_T50 HR0.out a1 p557 q557
            have hw557_5 := hx557_5
            have hw557_4 := hx557_4
            have hw557_3 := hx557_3
            have hw557_2 := hx557_2
            have hw557_1 := hx557_1
            have hw557_0 := hx557_0
            obtain rfl : ad547 = ad557 := (by injection e557)
            replace hx557_0 := h_ HB hx557_0
            replace hx557_1 := h_ HB hx557_1
            replace hx557_2 := h_ HB hx557_2
            replace hx557_3 := h_ HB hx557_3
            replace hx557_4 := h_ HB hx557_4
            replace hx557_5 := h_ HB hx557_5
            replace p557 := eq_true p557
            replace q557 := eq_true q557
            have p558 : 0 ≤ (((rd_T50 l0 a1).f3) : Int) := of_decide_eq_true A_
            have q558 : ((rd_T50 l0 a1).f3) < (l0.length : Int) := of_decide_eq_true A_
            obtain ⟨ad558, e558, hx558_0, hx558_1, hx558_2, hx558_3, hx558_4, hx558_5⟩ := at_T50 HR0.out ((rd_T50 l0 a1).f3) p558 q558
            have hw558_5 := hx558_5
            have hw558_4 := hx558_4
            have hw558_3 := hx558_3
            have hw558_2 := hx558_2
            have hw558_1 := hx558_1
            have hw558_0 := hx558_0
            obtain rfl : ad547 = ad558 := (by injection e558)
            replace hx558_0 := h_ HB hx558_0
            replace hx558_1 := h_ HB hx558_1
            replace hx558_2 := h_ HB hx558_2
            replace hx558_3 := h_ HB hx558_3
            replace hx558_4 := h_ HB hx558_4
            replace hx558_5 := h_ HB hx558_5
            replace p558 := eq_true p558
            replace q558 := eq_true q558
            have p559 : 0 ≤ (((rd_T50 l0 ((rd_T50 l0 a1).f3)).f3) : Int) := of_decide_eq_true A_
            have q559 : ((rd_T50 l0 ((rd_T50 l0 a1).f3)).f3) < (l0.length : Int) := of_decide_eq_true A_
            obtain ⟨ad559, e559, hx559_0, hx559_1, hx559_2, hx559_3, hx559_4, hx559_5⟩ := at_T50 HR0.out ((rd_T50 l0 ((rd_T50 l0 a1).f3)).f3) p559 q559
            have hw559_5 := hx559_5
            have hw559_4 := hx559_4
            have hw559_3 := hx559_3
            have hw559_2 := hx559_2
            have hw559_1 := hx559_1
            have hw559_0 := hx559_0
            obtain rfl : ad547 = ad559 := (by injection e559)
            replace hx559_0 := h_ HB hx559_0
            replace hx559_1 := h_ HB hx559_1
            replace hx559_2 := h_ HB hx559_2
            replace hx559_3 := h_ HB hx559_3
            replace hx559_4 := h_ HB hx559_4
            replace hx559_5 := h_ HB hx559_5
            replace p559 := eq_true p559
            replace q559 := eq_true q559
            have p560 : 0 ≤ (a1 : Int) := of_decide_eq_true A_
            have q560 : a1 < (l0.length : Int) := of_decide_eq_true A_
            obtain ⟨ad560, e560, hx560_0, hx560_1, hx560_2, hx560_3, hx560_4, hx560_5⟩ := at_T50 HR0.out a1 p560 q560
            have hw560_5 := hx560_5
            have hw560_4 := hx560_4
            have hw560_3 := hx560_3
            have hw560_2 := hx560_2
            have hw560_1 := hx560_1
            have hw560_0 := hx560_0
            obtain rfl : ad547 = ad560 := (by injection e560)
            replace hx560_0 := h_ HB hx560_0
            replace hx560_1 := h_ HB hx560_1
            replace hx560_2 := h_ HB hx560_2
            replace hx560_3 := h_ HB hx560_3
            replace hx560_4 := h_ HB hx560_4
            replace hx560_5 := h_ HB hx560_5
            replace p560 := eq_true p560
            replace q560 := eq_true q560
            have p561 : 0 ≤ (((rd_T50 l0 a1).f4) : Int) := of_decide_eq_true A_
            have q561 : ((rd_T50 l0 a1).f4) < (l0.length : Int) := of_decide_eq_true A_
            obtain ⟨ad561, e561, hx561_0, hx561_1, hx561_2, hx561_3, hx561_4, hx561_5⟩ := at_T50 HR0.out ((rd_T50 l0 a1).f4) p561 q561
            have hw561_5 := hx561_5
            have hw561_4 := hx561_4
            have hw561_3 := hx561_3
            have hw561_2 := hx561_2
            have hw561_1 := hx561_1
            have hw561_0 := hx561_0
            obtain rfl : ad547 = ad561 := (by injection e561)
            replace hx561_0 := h_ HB hx561_0
            replace hx561_1 := h_ HB hx561_1
            replace hx561_2 := h_ HB hx561_2
            replace hx561_3 := h_ HB hx561_3
            replace hx561_4 := h_ HB hx561_4
            replace hx561_5 := h_ HB hx561_5
            replace p561 := eq_true p561
            replace q561 := eq_true q561
            refine start_ (n := 27) (S := fun w' => w'.cell? ⟨gb556, 0, none⟩ = some (.slice Ao20 t549.length co20) ∧ w'.cell? ⟨gb556, 1, none⟩ = some (.bool t552) ∧ w'.cell? ⟨gb556, 2, none⟩ = some (.int .i64 t553) ∧ w'.cell? ⟨gb556, 3, none⟩ = some (.string t554) ∧ w'.cell? (ad547.add ((a1).toNat * 6)) = some (.int .i64 ((rd_T50 l0 a1).f0)) ∧ w'.cell? ⟨(ad547.add ((a1).toNat * 6)).block, (ad547.add ((a1).toNat * 6)).off + 1, none⟩ = some (.string ((rd_T50 l0 a1).f1)) ∧ w'.cell? ⟨(ad547.add ((a1).toNat * 6)).block, (ad547.add ((a1).toNat * 6)).off + 2, none⟩ = some (.int .i64 ((rd_T50 l0 a1).f2)) ∧ w'.cell? ⟨(ad547.add ((a1).toNat * 6)).block, (ad547.add ((a1).toNat * 6)).off + 3, none⟩ = some (.int .i64 ((rd_T50 l0 a1).f3)) ∧ w'.cell? ⟨(ad547.add ((a1).toNat * 6)).block, (ad547.add ((a1).toNat * 6)).off + 4, none⟩ = some (.int .i64 ((rd_T50 l0 a1).f4)) ∧ w'.cell? ⟨(ad547.add ((a1).toNat * 6)).block, (ad547.add ((a1).toNat * 6)).off + 5, none⟩ = some (.int .i64 ((rd_T50 l0 a1).f5)) ∧ w'.cell? (ad547.add ((((rd_T50 l0 a1).f3)).toNat * 6)) = some (.int .i64 ((rd_T50 l0 ((rd_T50 l0 a1).f3)).f0)) ∧ w'.cell? ⟨(ad547.add ((((rd_T50 l0 a1).f3)).toNat * 6)).block, (ad547.add ((((rd_T50 l0 a1).f3)).toNat * 6)).off + 1, none⟩ = some (.string ((rd_T50 l0 ((rd_T50 l0 a1).f3)).f1)) ∧ w'.cell? ⟨(ad547.add ((((rd_T50 l0 a1).f3)).toNat * 6)).block, (ad547.add ((((rd_T50 l0 a1).f3)).toNat * 6)).off + 2, none⟩ = some (.int .i64 ((rd_T50 l0 ((rd_T50 l0 a1).f3)).f2)) ∧ w'.cell? ⟨(ad547.add ((((rd_T50 l0 a1).f3)).toNat * 6)).block, (ad547.add ((((rd_T50 l0 a1).f3)).toNat * 6)).off + 3, none⟩ = some (.int .i64 ((rd_T50 l0 ((rd_T50 l0 a1).f3)).f3)) ∧ w'.cell? ⟨(ad547.add ((((rd_T50 l0 a1).f3)).toNat * 6)).block, (ad547.add ((((rd_T50 l0 a1).f3)).toNat * 6)).off + 4, none⟩ = some (.int .i64 ((rd_T50 l0 ((rd_T50 l0 a1).f3)).f4)) ∧ w'.cell? ⟨(ad547.add ((((rd_T50 l0 a1).f3)).toNat * 6)).block, (ad547.add ((((rd_T50 l0 a1).f3)).toNat * 6)).off + 5, none⟩ = some (.int .i64 ((rd_T50 l0 ((rd_T50 l0 a1).f3)).f5)) ∧ w'.cell? (ad547.add ((((rd_T50 l0 ((rd_T50 l0 a1).f3)).f3)).toNat * 6)) = some (.int .i64 ((rd_T50 l0 ((rd_T50 l0 ((rd_T50 l0 a1).f3)).f3)).f0)) ∧ w'.cell? ⟨(ad547.add ((((rd_T50 l0 ((rd_T50 l0 a1).f3)).f3)).toNat * 6)).block, (ad547.add ((((rd_T50 l0 ((rd_T50 l0 a1).f3)).f3)).toNat * 6)).off + 1, none⟩ = some (.string ((rd_T50 l0 ((rd_T50 l0 ((rd_T50 l0 a1).f3)).f3)).f1)) ∧ w'.cell? ⟨(ad547.add ((((rd_T50 l0 ((rd_T50 l0 a1).f3)).f3)).toNat * 6)).block, (ad547.add ((((rd_T50 l0 ((rd_T50 l0 a1).f3)).f3)).toNat * 6)).off + 2, none⟩ = some (.int .i64 ((rd_T50 l0 ((rd_T50 l0 ((rd_T50 l0 a1).f3)).f3)).f2)) ∧ w'.cell? ⟨(ad547.add ((((rd_T50 l0 ((rd_T50 l0 a1).f3)).f3)).toNat * 6)).block, (ad547.add ((((rd_T50 l0 ((rd_T50 l0 a1).f3)).f3)).toNat * 6)).off + 3, none⟩ = some (.int .i64 ((rd_T50 l0 ((rd_T50 l0 ((rd_T50 l0 a1).f3)).f3)).f3)) ∧ w'.cell? ⟨(ad547.add ((((rd_T50 l0 ((rd_T50 l0 a1).f3)).f3)).toNat * 6)).block, (ad547.add ((((rd_T50 l0 ((rd_T50 l0 a1).f3)).f3)).toNat * 6)).off + 4, none⟩ = some (.int .i64 ((rd_T50 l0 ((rd_T50 l0 ((rd_T50 l0 a1).f3)).f3)).f4)) ∧ w'.cell? ⟨(ad547.add ((((rd_T50 l0 ((rd_T50 l0 a1).f3)).f3)).toNat * 6)).block, (ad547.add ((((rd_T50 l0 ((rd_T50 l0 a1).f3)).f3)).toNat * 6)).off + 5, none⟩ = some (.int .i64 ((rd_T50 l0 ((rd_T50 l0 ((rd_T50 l0 a1).f3)).f3)).f5)) ∧ w'.cell? (ad547.add ((a1).toNat * 6)) = some (.int .i64 ((rd_T50 l0 a1).f0)) ∧ w'.cell? ⟨(ad547.add ((a1).toNat * 6)).block, (ad547.add ((a1).toNat * 6)).off + 1, none⟩ = some (.string ((rd_T50 l0 a1).f1)) ∧ w'.cell? ⟨(ad547.add ((a1).toNat * 6)).block, (ad547.add ((a1).toNat * 6)).off + 2, none⟩ = some (.int .i64 ((rd_T50 l0 a1).f2)) ∧ w'.cell? ⟨(ad547.add ((a1).toNat * 6)).block, (ad547.add ((a1).toNat * 6)).off + 3, none⟩ = some (.int .i64 ((rd_T50 l0 a1).f3)) ∧ w'.cell? ⟨(ad547.add ((a1).toNat * 6)).block, (ad547.add ((a1).toNat * 6)).off + 4, none⟩ = some (.int .i64 ((rd_T50 l0 a1).f4)) ∧ w'.cell? ⟨(ad547.add ((a1).toNat * 6)).block, (ad547.add ((a1).toNat * 6)).off + 5, none⟩ = some (.int .i64 ((rd_T50 l0 a1).f5)) ∧ w'.cell? (ad547.add ((((rd_T50 l0 a1).f4)).toNat * 6)) = some (.int .i64 ((rd_T50 l0 ((rd_T50 l0 a1).f4)).f0)) ∧ w'.cell? ⟨(ad547.add ((((rd_T50 l0 a1).f4)).toNat * 6)).block, (ad547.add ((((rd_T50 l0 a1).f4)).toNat * 6)).off + 1, none⟩ = some (.string ((rd_T50 l0 ((rd_T50 l0 a1).f4)).f1)) ∧ w'.cell? ⟨(ad547.add ((((rd_T50 l0 a1).f4)).toNat * 6)).block, (ad547.add ((((rd_T50 l0 a1).f4)).toNat * 6)).off + 2, none⟩ = some (.int .i64 ((rd_T50 l0 ((rd_T50 l0 a1).f4)).f2)) ∧ w'.cell? ⟨(ad547.add ((((rd_T50 l0 a1).f4)).toNat * 6)).block, (ad547.add ((((rd_T50 l0 a1).f4)).toNat * 6)).off + 3, none⟩ = some (.int .i64 ((rd_T50 l0 ((rd_T50 l0 a1).f4)).f3)) ∧ w'.cell? ⟨(ad547.add ((((rd_T50 l0 a1).f4)).toNat * 6)).block, (ad547.add ((((rd_T50 l0 a1).f4)).toNat * 6)).off + 4, none⟩ = some (.int .i64 ((rd_T50 l0 ((rd_T50 l0 a1).f4)).f4)) ∧ w'.cell? ⟨(ad547.add ((((rd_T50 l0 a1).f4)).toNat * 6)).block, (ad547.add ((((rd_T50 l0 a1).f4)).toNat * 6)).off + 5, none⟩ = some (.int .i64 ((rd_T50 l0 ((rd_T50 l0 a1).f4)).f5))) (ds := []) #[false, false, false, false, false, false, false, false, false, false, false, false, false, false, false, false, false, false, false, false, false, false, false, false, false, false, false] (by kernel_rfl) rfl rfl ⟨(blk_cell BK556.out 0).trans rfl, (blk_cell BK556.out 1).trans rfl, (blk_cell BK556.out 2).trans rfl, (blk_cell BK556.out 3).trans rfl, ((HB.out.cell (World.block_lt_of_cell? w _ hw557_0)).trans hw557_0), ((HB.out.cell (World.block_lt_of_cell? w _ hw557_1)).trans hw557_1), ((HB.out.cell (World.block_lt_of_cell? w _ hw557_2)).trans hw557_2), ((HB.out.cell (World.block_lt_of_cell? w _ hw557_3)).trans hw557_3), ((HB.out.cell (World.block_lt_of_cell? w _ hw557_4)).trans hw557_4), ((HB.out.cell (World.block_lt_of_cell? w _ hw557_5)).trans hw557_5), ((HB.out.cell (World.block_lt_of_cell? w _ hw558_0)).trans hw558_0), ((HB.out.cell (World.block_lt_of_cell? w _ hw558_1)).trans hw558_1), ((HB.out.cell (World.block_lt_of_cell? w _ hw558_2)).trans hw558_2), ((HB.out.cell (World.block_lt_of_cell? w _ hw558_3)).trans hw558_3), ((HB.out.cell (World.block_lt_of_cell? w _ hw558_4)).trans hw558_4), ((HB.out.cell (World.block_lt_of_cell? w _ hw558_5)).trans hw558_5), ((HB.out.cell (World.block_lt_of_cell? w _ hw559_0)).trans hw559_0), ((HB.out.cell (World.block_lt_of_cell? w _ hw559_1)).trans hw559_1), ((HB.out.cell (World.block_lt_of_cell? w _ hw559_2)).trans hw559_2), ((HB.out.cell (World.block_lt_of_cell? w _ hw559_3)).trans hw559_3), ((HB.out.cell (World.block_lt_of_cell? w _ hw559_4)).trans hw559_4), ((HB.out.cell (World.block_lt_of_cell? w _ hw559_5)).trans hw559_5), ((HB.out.cell (World.block_lt_of_cell? w _ hw560_0)).trans hw560_0), ((HB.out.cell (World.block_lt_of_cell? w _ hw560_1)).trans hw560_1), ((HB.out.cell (World.block_lt_of_cell? w _ hw560_2)).trans hw560_2), ((HB.out.cell (World.block_lt_of_cell? w _ hw560_3)).trans hw560_3), ((HB.out.cell (World.block_lt_of_cell? w _ hw560_4)).trans hw560_4), ((HB.out.cell (World.block_lt_of_cell? w _ hw560_5)).trans hw560_5), ((HB.out.cell (World.block_lt_of_cell? w _ hw561_0)).trans hw561_0), ((HB.out.cell (World.block_lt_of_cell? w _ hw561_1)).trans hw561_1), ((HB.out.cell (World.block_lt_of_cell? w _ hw561_2)).trans hw561_2), ((HB.out.cell (World.block_lt_of_cell? w _ hw561_3)).trans hw561_3), ((HB.out.cell (World.block_lt_of_cell? w _ hw561_4)).trans hw561_4), ((HB.out.cell (World.block_lt_of_cell? w _ hw561_5)).trans hw561_5)⟩ (fun hHeld => ?_); refine with_tabW keystoneref3_Method.tab5 keystoneref3_Method.bits5 (fun HT_ HW_ => ?_)
            generalize w23.drew = w24 at HO551 BK545 BK556 HB hx557_0 hx557_1 hx557_2 hx557_3 hx557_4 hx557_5 hx558_0 hx558_1 hx558_2 hx558_3 hx558_4 hx558_5 hx559_0 hx559_1 hx559_2 hx559_3 hx559_4 hx559_5 hx560_0 hx560_1 hx560_2 hx560_3 hx560_4 hx560_5 hx561_0 hx561_1 hx561_2 hx561_3 hx561_4 hx561_5 hHeld ⊢
            refine u_ 0 31 (bb 27 1) ?_
            refine u_ 1 32 (bb 27 3) ?_
            refine u_ 2 33 (bb 27 7) ?_
            refine u_ 3 34 (bb 27 15) ?_
            refine u_ 4 35 (bb 27 31) ?_
            refine u_ 5 36 (bb 27 63) ?_
            refine u_ 13 44 (bb 27 8255) ?_
            refine u_ 14 45 (bb 27 24639) ?_
            refine u_ 15 46 (bb 27 57407) ?_
            refine u_ 16 47 (bb 27 122943) ?_
            refine u_ 17 48 (bb 27 254015) ?_
            refine t_ 6 37 (bb 27 254079) ?_
            refine u_ 7 38 (bb 27 254207) ?_
            refine u_ 8 39 (bb 27 254463) ?_
            refine t_ 9 40 (bb 27 254975) ?_
            refine u_ 10 41 (bb 27 255999) ?_
            refine u_ 11 42 (bb 27 258047) ?_
            refine t_ 12 43 (bb 27 262143) ?_
            refine u_ 23 4 (bb 27 8650751) ?_
            refine t_ 18 49 (bb 27 8912895) ?_
            refine u_ 19 50 (bb 27 9437183) ?_
            refine u_ 20 51 (bb 27 10485759) ?_
            refine t_ 21 52 (bb 27 12582911) ?_
            refine u_ 24 5 (bb 27 29360127) ?_
            refine t_ 22 53 (bb 27 33554431) ?_
            refine one_ (i := 25) (N := none) #[true, true, true, true, true, true, true, true, true, true, true, true, true, true, true, true, true, true, true, true, true, true, true, true, true, true, false] rfl rfl (one_of HT_.out (by kernel_rfl)) (by decide) (fun K hK => ?_)
            have hs25 : w24.cell? ⟨gb545, 0, none⟩ = some (.slice none 0 0) := (blk_cell BK545.out 0).trans rfl
            have hfs25 := blk_frozen BK545.out 0
            have hns25_1 := NB556_545.out
            have hms25_1 := NB545_556.out
            have hs26 : w24.cell? ⟨gb545, 1, none⟩ = some (.bool false) := (blk_cell BK545.out 1).trans rfl
            have hfs26 := blk_frozen BK545.out 1
            have hns26_1 := NB556_545.out
            have hms26_1 := NB545_556.out
            have hs27 : w24.cell? ⟨gb545, 2, none⟩ = some (.int .i64 0) := (blk_cell BK545.out 2).trans rfl
            have hfs27 := blk_frozen BK545.out 2
            have hns27_1 := NB556_545.out
            have hms27_1 := NB545_556.out
            have hs28 : w24.cell? ⟨gb545, 3, none⟩ = some (.string (⟨#[]⟩ : ByteArray)) := (blk_cell BK545.out 3).trans rfl
            have hfs28 := blk_frozen BK545.out 3
            have hns28_1 := NB556_545.out
            have hms28_1 := NB545_556.out
            refine skip_ (w1 := ?_) (by rfl) rfl ?_ ?_
            rotate_left
            ·
             go_simp
             rfl
            refine hK.out _ _ (S_ hHeld) (fun hHeld => ?_)
            clear hK K
            refine u_ 26 7 (bb 27 134217727) ?_
            refine done_ (done_of HT_.out (by kernel_rfl)) ?_
            try go_wp2
            refine bodyPost_ret (results_list (rs := [.tmp 4, .tmp 5, .cell 6 39, .tmp 7]) rfl (by simp) (.tmp (.tmp (.cell gb545 39 #[.slice Ao20 t549.length co20, .bool t552, .int .i64 t553, .string t554] (0, 0) _ rfl P_ Tryd.underlying39 rfl (by kernel_rfl) (.tmp .nil))))) rfl ?_
            exact ⟨_, E_, by (with_reducible repeat (first | apply Kd.R_alloc | apply Kd.R_drewN | apply Kd.R_drew)); exact Kd.R_mono (Kd.R_far (p := ⟨gb545, 3, none⟩) (Kd.R_far (p := ⟨gb545, 2, none⟩) (Kd.R_far (p := ⟨gb545, 1, none⟩) (Kd.R_far (p := ⟨gb545, 0, none⟩) (Kd.R_types HO551.out BK545.out (by decide)) (fun _ hk => hk.2) (.slice Ao20 t549.length co20)) (fun _ hk => hk.2) (.bool t552)) (fun _ hk => hk.2) (.int .i64 t553)) (fun _ hk => hk.2) (.string t554)) (fun _ hk => trivial), B_⟩
           ·
            rw [if_neg c15] at H
            exact absurd H (by simp)
          ·
           rw [if_neg c14] at H
           exact absurd H (by simp)
         ·
          rw [if_neg c13] at H
          exact absurd H (by simp)
        ·
         rw [if_neg c12] at H
         exact absurd H (by simp)
       ·
        rw [if_neg c11] at H
        exact absurd H (by simp)
      ·
       rw [if_neg c10] at H
       exact absurd H (by simp)
     ·
      rw [if_neg c8] at H
      exact absurd H (by simp)
    ·
     rw [if_neg c7] at H
     exact absurd H (by simp)
   ·
    rw [if_neg c6] at H
    exact absurd H (by simp)
  ·
   rw [if_neg c5] at H
   exact absurd H (by simp)
 ·
  rw [if_neg c4] at H
  have c4b0 : (t546 == 0) = false := beq_eq_false_iff_ne.mpr c4
  have c4b1 : (t546 != 0) = true := bne_iff_ne.mpr c4
  simp only [Option.some.injEq, Prod.mk.injEq] at H
  obtain ⟨rfl, rfl, rfl, rfl, rfl, rfl, rfl⟩ := H
  go_enter Tryd.func49, Tryd.ntmps49
  go_wp2_with (first | ((with_reducible refine d_ 6 ?_); refine X_ 6 #[.slice none 0 0, .bool false, .int .i64 0, .string (⟨#[]⟩ : ByteArray)] 39 ?_; intro gb545 hg w29 hbox hb; have BK545 := Aside0.mk hbox; have GW545 := Aside0.mk (s_ hg); have GE545 := GW545; have HB := bs_ hb; clear hb hbox hg) | ((with_reducible refine gt_ 83 ?_); refine gd_ 13 Tryd.func83 (keystoneref3_held.calls k _ _ l0 a1 6 t546 _ (Y_ (Kd.C_below HR0.out HB.out)) HC0.out A3.out) ?_; intro w30 hb; have BK545 := kb_ BK545 hb; have HB := bs_ hb; (try clear hb); (try clear hb2); (try clear hk); (try clear hi); obtain ⟨hcz31_0, hcz31_1, hcz31_2, hcz31_3, hfz31_0, hfz31_1, hfz31_2, hfz31_3⟩ := c4_ BK545.out))
  refine bodyPost_ret (results_list (rs := [.tmp 4, .tmp 5, .cell 6 39, .tmp 7]) rfl (by simp) (.tmp (.tmp (.cell gb545 39 #[.slice none 0 0, .bool false, .int .i64 0, .string (⟨#[]⟩ : ByteArray)] (0, 0) _ rfl P_ Tryd.underlying39 rfl (by kernel_rfl) (.tmp .nil))))) rfl ?_
  exact ⟨_, E_, by first | exact Kd.R_nil _ _ _ _ _ | exact Kd.N_nil _ _ _ _ _ | exact Kd.V_nil _ _ _ _ _ | exact Kd.Q_nil _ _ _ _ _ | exact Kd.S_nil _ _ _ _ _, B_⟩
end Go.Proofs.YtldejfkplnejjaaDoor.P
