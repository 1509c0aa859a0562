-- Written by my program xprint.py (a patched run of the kit's print). Lean checks it.
import Derived.Test.YtldejfkplnejjaaDoorP0
import Derived.Test.YtldejfkplnejjaaDoorP19
import Derived.Test.YtldejfkplnejjaaDoorExt
import Derived.Test.YtldejfkplnejjaaDoorShort
import Derived.Test.YtldejfkplnejjaaDoorShort2
import Derived.Test.YtldejfkplnejjaaDoorExtKnown
namespace Go.Proofs.YtldejfkplnejjaaDoor.P
open Go.RowKit Go.Proofs.YtldejfkplnejjaaDoorW.PrintWords Go.Proofs.YtldejfkplnejjaaDoorW.PrintLast Go.Proofs.YtldejfkplnejjaaDoorW.PrintMore
attribute [local go_sem] max2_int min2_int max_two min_two max_three min_three max_four min_four   -- for this text's walks alone
set_option linter.unusedVariables false
set_option linter.unusedSimpArgs false

/-! ### keystonelaw3_PoolSays: function 5 -/
def keystonelaw3_PoolSays.l0 : Nat → List (S50) → Int → Int → Option (Bool)
  | 0, _, _, _ => none
  | k + 1, x0, x1, x5 => if x5 ≤ (x0.length : Int) then ((keystonelaw3_says.f k x0 x5).bind fun t614 => (if t614 = true then (keystonelaw3_PoolSays.l0 k x0 x1 (wrap64 (x5 + 1))) else (some false))) else ((keystonelaw3_says.f k x0 x1).bind fun t615 => (some t615))
def keystonelaw3_PoolSays.f (k : Nat) (l0 : List (S50)) (a1 : Int) : Option (Bool) := (keystonelaw3_known.f).bind fun t613 => (if t613 = true then (if (l0.length : Int) > 400 then (some true) else (keystonelaw3_PoolSays.l0 k l0 a1 (-1))) else (some false))
theorem keystonelaw3_PoolSays.mono_l : ∀ k, (∀ y0 y1 y2, LeO (keystonelaw3_PoolSays.l0 k y0 y1 y2) (keystonelaw3_PoolSays.l0 (k + 1) y0 y1 y2))
  | 0 => fun _ _ _ r h => by simp [keystonelaw3_PoolSays.l0] at h
  | k + 1 => by
    have ih0 := keystonelaw3_PoolSays.mono_l k
    · intro y0 y1 y2
      unfold keystonelaw3_PoolSays.l0
      repeat' first
      | (with_reducible exact ih0 _ _ _)
      | (with_reducible exact keystonelaw3_says.mono _ _ _)
      | (with_reducible exact LeO.refl _)
      | (with_reducible exact LeO.none _)
      | (with_reducible refine LeO.ite ?_ ?_)
      | (with_reducible refine LeO.bind ?_ (fun _ => ?_))
      | exact ih0 _ _ _
      | exact keystonelaw3_says.mono _ _ _
      | exact LeO.none _
      | refine LeO.ite ?_ ?_
      | refine LeO.bind ?_ (fun _ => ?_)
theorem keystonelaw3_PoolSays.mono : ∀ a0 a1 k, LeO (keystonelaw3_PoolSays.f k a0 a1) (keystonelaw3_PoolSays.f (k + 1) a0 a1) := by
  intro a0 a1 k
  have ih0 := keystonelaw3_PoolSays.mono_l k
  unfold keystonelaw3_PoolSays.f
  repeat' first
      | (with_reducible exact ih0 _ _ _)
      | (with_reducible exact keystonelaw3_says.mono _ _ _)
      | (with_reducible exact LeO.refl _)
      | (with_reducible exact LeO.none _)
      | (with_reducible refine LeO.ite ?_ ?_)
      | (with_reducible refine LeO.bind ?_ (fun _ => ?_))
      | exact ih0 _ _ _
      | exact keystonelaw3_says.mono _ _ _
      | exact LeO.none _
      | refine LeO.ite ?_ ?_
      | refine LeO.bind ?_ (fun _ => ?_)
set_option maxHeartbeats 8000000 in
set_option maxRecDepth 100000 in
theorem keystonelaw3_PoolSays.calls (k : Nat) (A0 : Option Addr) (c0 : Nat) (l0 : List (S50)) (a1 : Int) (r : Bool) (w : World) (hr0 : Kd.C k50 w A0 l0.length l0) (hc0 : l0.length ≤ c0) (hT : r = true) (h : keystonelaw3_PoolSays.f k l0 a1 = some r) :
    Calls Tryd.prog 5 #[.slice A0 l0.length c0, .int .i64 a1] w fun e w' => e = .returned (.bool r) ∧ Below w.heap.size w w' := by
  have HR0 := Aside0.mk hr0
  have HC0 := Aside0.mk hc0
  clear hr0 hc0
  have HB := Aside0.mk (Below.refl w.heap.size w)
  have H : ((keystonelaw3_known.f).bind fun t613 => (if t613 = true then (if (l0.length : Int) > 400 then (some true) else (keystonelaw3_PoolSays.l0 k l0 a1 (-1))) else (some false))) = some r := h
  clear h
  have HT := Aside0.mk hT
  clear hT
  replace H := Option.bind_eq_some_iff.mp H
  obtain ⟨t613, A30, H⟩ := H
  replace H : (if t613 = true then (if (l0.length : Int) > 400 then (some true) else (keystonelaw3_PoolSays.l0 k l0 a1 (-1))) else (some false)) = some r := H
  have A3 := Aside0.mk A30
  clear A30
  by_cases c4 : t613 = true
  · subst c4
    have H1 : (if (l0.length : Int) > 400 then (some true) else (keystonelaw3_PoolSays.l0 k l0 a1 (-1))) = some r := by rw [if_pos rfl] at H; exact H
    clear H
    have H := H1
    clear H1
    by_cases c5 : (l0.length : Int) > 400
    · rw [if_pos c5] at H
      have c5b0 : decide (400 < (l0.length : Int)) = true := decide_eq_true c5
      have c5b1 : decide (400 < l0.length) = true := decide_eq_true (by omega)
      clear c5
      obtain rfl := Option.some.inj H
      go_enter Tryd.func5, Tryd.ntmps5
      go_wp2_with (first | ((with_reducible refine gt_ 14 ?_); refine gc_ 6 Tryd.func14 #[] ?_; (with_reducible refine (keystonelaw3_known.calls  true _ A3.out).mono ?_); rintro e w6 ⟨rfl, hb⟩; refine ⟨_, rfl, ?_⟩; have n0_ := Aside0.mk (below_step B_ hb); clear HB; have HB := n0_; clear n0_; (try clear hb); (try clear hb2); (try clear hk); (try clear hi)))
      go_ret
      exact ⟨E_, B_⟩
    · rw [if_neg c5] at H
      have c5b0 : decide (400 < (l0.length : Int)) = false := decide_eq_false c5
      have c5b1 : decide (400 < l0.length) = false := decide_eq_false (by omega)
      clear c5
      have H' := Aside0.mk H
      clear H
      go_enter Tryd.func5, Tryd.ntmps5
      go_wp2_with (first | ((with_reducible refine gt_ 14 ?_); refine gc_ 6 Tryd.func14 #[] ?_; (with_reducible refine (keystonelaw3_known.calls  true _ A3.out).mono ?_); rintro e w7 ⟨rfl, hb⟩; refine ⟨_, rfl, ?_⟩; have n0_ := Aside0.mk (below_step B_ hb); clear HB; have HB := n0_; clear n0_; (try clear hb); (try clear hb2); (try clear hk); (try clear hi)))
      go_loopg [5] k (fun kq v5 w' => ∃ (x5_1 : Int), v5 = .int .i64 x5_1 ∧ Aside0 (keystonelaw3_PoolSays.l0 kq l0 a1 x5_1 = some r) ∧ Aside0 (kq ≤ k) ∧ Aside0 (Below w.heap.size w w'))
      case atStart => exact ⟨((-1)), R_, H', ⟨Nat.le_refl _⟩, ⟨B_⟩⟩
      case round =>
        clear H'
        try clear c1
        try clear p2
        try clear c4
        try clear c5
        try clear c5b0
        try clear c5b1
        obtain ⟨x5_1, rfl, HA, HK1, HB⟩ := hrel
        cases gk with
        | zero => exact absurd HA.out (by simp [keystonelaw3_PoolSays.l0])
        | succ k1 =>
          have H := HA.out
          clear HA
          simp only [keystonelaw3_PoolSays.l0] at H
          by_cases c8 : x5_1 ≤ (l0.length : Int)
          · rw [if_pos c8] at H
            have c8b0 : decide (x5_1 ≤ (l0.length : Int)) = true := decide_eq_true c8
            clear c8
            replace H := Option.bind_eq_some_iff.mp H
            obtain ⟨t614, A90, H⟩ := H
            replace H : (if t614 = true then (keystonelaw3_PoolSays.l0 k1 l0 a1 (wrap64 (x5_1 + 1))) else (some false)) = some r := H
            have A9 := Aside0.mk A90
            clear A90
            by_cases c10 : t614 = true
            · subst c10
              have H1 : (keystonelaw3_PoolSays.l0 k1 l0 a1 (wrap64 (x5_1 + 1))) = some r := by rw [if_pos rfl] at H; exact H
              clear H
              have H := H1
              clear H1
              have H' := Aside0.mk H
              clear H
              go_wp2_with (first | ((with_reducible refine gt_ 23 ?_); refine gc_ 19 Tryd.func23 #[.slice A0 l0.length c0, .int .i64 x5_1] ?_; (with_reducible refine (keystonelaw3_says.calls k1 _ _ l0 x5_1 true _ ?side1 ?side2 A9.out).mono ?_); (case side1 => exact Y_ (Kd.C_below HR0.out HB.out)); (case side2 => exact HC0.out); rintro e w11 ⟨rfl, hb⟩; refine ⟨_, rfl, ?_⟩; have n0_ := Aside0.mk (below_step B_ hb); clear HB; have HB := n0_; clear n0_; (try clear hb); (try clear hb2); (try clear hk); (try clear hi)))
              go_roundg k1
              case measure => have := HK1.out; omega
              case rel => exact ⟨(wrap64 (x5_1 + 1)), R_, H', ⟨by have := HK1.out; omega⟩, ⟨B_⟩⟩
            · replace c10 := Bool.eq_false_iff.mpr c10
              subst c10
              have H1 : (some false) = some r := by rw [if_neg (show ¬ (false = true) by decide)] at H; exact H
              clear H
              have H := H1
              clear H1
              obtain rfl := Option.some.inj H
              exact absurd HT.out (by decide)
          · rw [if_neg c8] at H
            have c8b0 : decide (x5_1 ≤ (l0.length : Int)) = false := decide_eq_false c8
            clear c8
            replace H := Option.bind_eq_some_iff.mp H
            obtain ⟨t615, A120, H⟩ := H
            replace H : (some t615) = some r := H
            have A12 := Aside0.mk A120
            clear A120
            obtain rfl := Option.some.inj H
            go_wp2_with (first | ((with_reducible refine gt_ 23 ?_); refine gc_ 23 Tryd.func23 #[.slice A0 l0.length c0, .int .i64 a1] ?_; (with_reducible refine (keystonelaw3_says.calls k1 _ _ l0 a1 t615 _ ?side1 ?side2 A12.out).mono ?_); (case side1 => exact Y_ (Kd.C_below HR0.out HB.out)); (case side2 => exact HC0.out); rintro e w13 ⟨rfl, hb⟩; refine ⟨_, rfl, ?_⟩; have n0_ := Aside0.mk (below_step B_ hb); clear HB; have HB := n0_; clear n0_; (try clear hb); (try clear hb2); (try clear hk); (try clear hi)))
            go_ret
            exact ⟨E_, B_⟩
  · replace c4 := Bool.eq_false_iff.mpr c4
    subst c4
    have H1 : (some false) = some r := by rw [if_neg (show ¬ (false = true) by decide)] at H; exact H
    clear H
    have H := H1
    clear H1
    obtain rfl := Option.some.inj H
    exact absurd HT.out (by decide)

end Go.Proofs.YtldejfkplnejjaaDoor.P
