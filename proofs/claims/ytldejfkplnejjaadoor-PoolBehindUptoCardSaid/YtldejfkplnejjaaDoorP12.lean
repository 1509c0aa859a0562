-- Written by my program xprint.py (a patched run of the kit's print). Lean checks it.
import Derived.Test.YtldejfkplnejjaaDoorP0
import Derived.Test.YtldejfkplnejjaaDoorP1
import Derived.Test.YtldejfkplnejjaaDoorP5
import Derived.Test.YtldejfkplnejjaaDoorP10
import Derived.Test.YtldejfkplnejjaaDoorP11
import Derived.Test.YtldejfkplnejjaaDoorExt
import Derived.Test.YtldejfkplnejjaaDoorShort
import Derived.Test.YtldejfkplnejjaaDoorShort2
import Derived.Test.YtldejfkplnejjaaDoorExtKnown
namespace Go.Proofs.YtldejfkplnejjaaDoor.P
open Go.RowKit Go.Proofs.YtldejfkplnejjaaDoorW.PrintWords Go.Proofs.YtldejfkplnejjaaDoorW.PrintLast Go.Proofs.YtldejfkplnejjaaDoorW.PrintMore
attribute [local go_sem] max2_int min2_int max_two min_two max_three min_three max_four min_four   -- for this text's walks alone
set_option linter.unusedVariables false
set_option linter.unusedSimpArgs false

attribute [local go_sem high] eqA34
/-! ### keystonelaw3_PoolBehind: function 4 -/
mutual
def keystonelaw3_PoolBehind.j0 : Nat → List (S50) → List (S50) → Bool → Option (Bool)
  | 0, _, _, _ => none
  | k + 1, x0, x1, x35 => if x35 = true then (some true) else ((pool_Check.f k x0).bind fun bt292 => (if bt292.2 = 0 then ((some (([] : List (S50)) : List (S50))).bind fun y294 => (if y294.length + x0.length < 2513169434916 then ((some (y294 ++ x0 : List (S50))).bind fun y297 => (if y297.length + x1.length < 2513169434916 then (keystonelaw3_PoolBehind.l0 k x0 (y297 ++ x1) 0) else (none))) else (none))) else (some true)))
def keystonelaw3_PoolBehind.l0 : Nat → List (S50) → List (S50) → Int → Option (Bool)
  | 0, _, _, _ => none
  | k + 1, x0, x7, x8 => if x8 < (x0.length : Int) then ((pool_Text.f k x0 x8).bind fun bt305 => ((pool_Text.f k x7 x8).bind fun bt307 => ((pool_Class.f k x0 x8).bind fun bt309 => ((pool_Class.f k x7 x8).bind fun bt311 => (if bt305.1.toList = bt307.1.toList then (if bt305.2 = bt307.2 then (if bt309.1.toList = bt311.1.toList then (keystonelaw3_PoolBehind.j2 k x0 x7 x8 (bt309.2 != bt311.2)) else (keystonelaw3_PoolBehind.j2 k x0 x7 x8 true)) else (keystonelaw3_PoolBehind.j2 k x0 x7 x8 true)) else (keystonelaw3_PoolBehind.j2 k x0 x7 x8 true)))))) else ((pool_Check.f k x7).bind fun bt303 => (if bt303.2 = 0 then (if bt303.1 = 0 then (some true) else (some (decide (bt303.1 ≥ (x0.length : Int))))) else (some (decide (bt303.1 ≥ (x0.length : Int))))))
def keystonelaw3_PoolBehind.j2 : Nat → List (S50) → List (S50) → Int → Bool → Option (Bool)
  | 0, _, _, _, _ => none
  | k + 1, x0, x7, x8, x95 => if x95 = true then (some false) else ((pool_Field.f k x0 x8).bind fun bt313 => ((pool_Field.f k x7 x8).bind fun bt319 => (if bt313.1.toList = bt319.1.toList then (if bt313.2.1.toList = bt319.2.1.toList then (if (!(bt313.2.2.1 == bt319.2.2.1) || (!(bt313.2.2.2.1.toList == bt319.2.2.2.1.toList))) = true then (keystonelaw3_PoolBehind.j3 k x0 x7 x8 true) else (keystonelaw3_PoolBehind.j3 k x0 x7 x8 (bt313.2.2.2.2 != bt319.2.2.2.2))) else (keystonelaw3_PoolBehind.j3 k x0 x7 x8 true)) else (keystonelaw3_PoolBehind.j3 k x0 x7 x8 true))))
def keystonelaw3_PoolBehind.j3 : Nat → List (S50) → List (S50) → Int → Bool → Option (Bool)
  | 0, _, _, _, _ => none
  | k + 1, x0, x7, x8, x129 => if x129 = true then (some false) else ((pool_Method.f k x0 x8).bind fun bt325 => ((pool_Method.f k x7 x8).bind fun bt335 => (if bt325.1.toList = bt335.1.toList then (if bt325.2.1.toList = bt335.2.1.toList then ((keystoneref2_Same.f k bt325.2.2.1 bt325.2.2.2.1 bt325.2.2.2.2.1 bt325.2.2.2.2.2.1 bt335.2.2.1 bt335.2.2.2.1 bt335.2.2.2.2.1 bt335.2.2.2.2.2.1).bind fun t345 => (if t345 = true then (if bt325.2.2.2.2.2.2 = bt335.2.2.2.2.2.2 then (keystonelaw3_PoolBehind.l0 k x0 x7 (wrap64 (x8 + 1))) else (some false)) else (some false))) else (some false)) else (some false))))
end
def keystonelaw3_PoolBehind.f (k : Nat) (l0 : List (S50)) (l1 : List (S50)) : Option (Bool) := (keystonelaw3_known.f).bind fun t291 => (if t291 = true then (if (l0.length : Int) > 300 then (keystonelaw3_PoolBehind.j0 k l0 l1 true) else (keystonelaw3_PoolBehind.j0 k l0 l1 (decide ((l1.length : Int) > 300)))) else (some false))
theorem keystonelaw3_PoolBehind.mono_l : ∀ k, (∀ y0 y1 y2, LeO (keystonelaw3_PoolBehind.j0 k y0 y1 y2) (keystonelaw3_PoolBehind.j0 (k + 1) y0 y1 y2)) ∧ (∀ y0 y1 y2, LeO (keystonelaw3_PoolBehind.l0 k y0 y1 y2) (keystonelaw3_PoolBehind.l0 (k + 1) y0 y1 y2)) ∧ (∀ y0 y1 y2 y3, LeO (keystonelaw3_PoolBehind.j2 k y0 y1 y2 y3) (keystonelaw3_PoolBehind.j2 (k + 1) y0 y1 y2 y3)) ∧ (∀ y0 y1 y2 y3, LeO (keystonelaw3_PoolBehind.j3 k y0 y1 y2 y3) (keystonelaw3_PoolBehind.j3 (k + 1) y0 y1 y2 y3))
  | 0 => ⟨fun _ _ _ r h => by simp [keystonelaw3_PoolBehind.j0] at h, fun _ _ _ r h => by simp [keystonelaw3_PoolBehind.l0] at h, fun _ _ _ _ r h => by simp [keystonelaw3_PoolBehind.j2] at h, fun _ _ _ _ r h => by simp [keystonelaw3_PoolBehind.j3] at h⟩
  | k + 1 => by
    obtain ⟨ih0, ih1, ih2, ih3⟩ := keystonelaw3_PoolBehind.mono_l k
    refine ⟨?_, ?_, ?_, ?_⟩
    · intro y0 y1 y2
      unfold keystonelaw3_PoolBehind.j0
      repeat' first
      | (with_reducible exact ih0 _ _ _)
      | (with_reducible exact ih1 _ _ _)
      | (with_reducible exact ih2 _ _ _ _)
      | (with_reducible exact ih3 _ _ _ _)
      | (with_reducible exact keystoneref2_Same.mono _ _ _ _ _ _ _ _ _)
      | (with_reducible exact pool_Check.mono _ _)
      | (with_reducible exact pool_Class.mono _ _ _)
      | (with_reducible exact pool_Field.mono _ _ _)
      | (with_reducible exact pool_Method.mono _ _ _)
      | (with_reducible exact pool_Text.mono _ _ _)
      | (with_reducible exact LeO.refl _)
      | (with_reducible exact LeO.none _)
      | (with_reducible refine LeO.ite ?_ ?_)
      | (with_reducible refine LeO.bind ?_ (fun _ => ?_))
      | exact ih0 _ _ _
      | exact ih1 _ _ _
      | exact ih2 _ _ _ _
      | exact ih3 _ _ _ _
      | exact keystoneref2_Same.mono _ _ _ _ _ _ _ _ _
      | exact pool_Check.mono _ _
      | exact pool_Class.mono _ _ _
      | exact pool_Field.mono _ _ _
      | exact pool_Method.mono _ _ _
      | exact pool_Text.mono _ _ _
      | exact LeO.none _
      | refine LeO.ite ?_ ?_
      | refine LeO.bind ?_ (fun _ => ?_)
    · intro y0 y1 y2
      unfold keystonelaw3_PoolBehind.l0
      repeat' first
      | (with_reducible exact ih0 _ _ _)
      | (with_reducible exact ih1 _ _ _)
      | (with_reducible exact ih2 _ _ _ _)
      | (with_reducible exact ih3 _ _ _ _)
      | (with_reducible exact keystoneref2_Same.mono _ _ _ _ _ _ _ _ _)
      | (with_reducible exact pool_Check.mono _ _)
      | (with_reducible exact pool_Class.mono _ _ _)
      | (with_reducible exact pool_Field.mono _ _ _)
      | (with_reducible exact pool_Method.mono _ _ _)
      | (with_reducible exact pool_Text.mono _ _ _)
      | (with_reducible exact LeO.refl _)
      | (with_reducible exact LeO.none _)
      | (with_reducible refine LeO.ite ?_ ?_)
      | (with_reducible refine LeO.bind ?_ (fun _ => ?_))
      | exact ih0 _ _ _
      | exact ih1 _ _ _
      | exact ih2 _ _ _ _
      | exact ih3 _ _ _ _
      | exact keystoneref2_Same.mono _ _ _ _ _ _ _ _ _
      | exact pool_Check.mono _ _
      | exact pool_Class.mono _ _ _
      | exact pool_Field.mono _ _ _
      | exact pool_Method.mono _ _ _
      | exact pool_Text.mono _ _ _
      | exact LeO.none _
      | refine LeO.ite ?_ ?_
      | refine LeO.bind ?_ (fun _ => ?_)
    · intro y0 y1 y2 y3
      unfold keystonelaw3_PoolBehind.j2
      repeat' first
      | (with_reducible exact ih0 _ _ _)
      | (with_reducible exact ih1 _ _ _)
      | (with_reducible exact ih2 _ _ _ _)
      | (with_reducible exact ih3 _ _ _ _)
      | (with_reducible exact keystoneref2_Same.mono _ _ _ _ _ _ _ _ _)
      | (with_reducible exact pool_Check.mono _ _)
      | (with_reducible exact pool_Class.mono _ _ _)
      | (with_reducible exact pool_Field.mono _ _ _)
      | (with_reducible exact pool_Method.mono _ _ _)
      | (with_reducible exact pool_Text.mono _ _ _)
      | (with_reducible exact LeO.refl _)
      | (with_reducible exact LeO.none _)
      | (with_reducible refine LeO.ite ?_ ?_)
      | (with_reducible refine LeO.bind ?_ (fun _ => ?_))
      | exact ih0 _ _ _
      | exact ih1 _ _ _
      | exact ih2 _ _ _ _
      | exact ih3 _ _ _ _
      | exact keystoneref2_Same.mono _ _ _ _ _ _ _ _ _
      | exact pool_Check.mono _ _
      | exact pool_Class.mono _ _ _
      | exact pool_Field.mono _ _ _
      | exact pool_Method.mono _ _ _
      | exact pool_Text.mono _ _ _
      | exact LeO.none _
      | refine LeO.ite ?_ ?_
      | refine LeO.bind ?_ (fun _ => ?_)
    · intro y0 y1 y2 y3
      unfold keystonelaw3_PoolBehind.j3
      repeat' first
      | (with_reducible exact ih0 _ _ _)
      | (with_reducible exact ih1 _ _ _)
      | (with_reducible exact ih2 _ _ _ _)
      | (with_reducible exact ih3 _ _ _ _)
      | (with_reducible exact keystoneref2_Same.mono _ _ _ _ _ _ _ _ _)
      | (with_reducible exact pool_Check.mono _ _)
      | (with_reducible exact pool_Class.mono _ _ _)
      | (with_reducible exact pool_Field.mono _ _ _)
      | (with_reducible exact pool_Method.mono _ _ _)
      | (with_reducible exact pool_Text.mono _ _ _)
      | (with_reducible exact LeO.refl _)
      | (with_reducible exact LeO.none _)
      | (with_reducible refine LeO.ite ?_ ?_)
      | (with_reducible refine LeO.bind ?_ (fun _ => ?_))
      | exact ih0 _ _ _
      | exact ih1 _ _ _
      | exact ih2 _ _ _ _
      | exact ih3 _ _ _ _
      | exact keystoneref2_Same.mono _ _ _ _ _ _ _ _ _
      | exact pool_Check.mono _ _
      | exact pool_Class.mono _ _ _
      | exact pool_Field.mono _ _ _
      | exact pool_Method.mono _ _ _
      | exact pool_Text.mono _ _ _
      | exact LeO.none _
      | refine LeO.ite ?_ ?_
      | refine LeO.bind ?_ (fun _ => ?_)
theorem keystonelaw3_PoolBehind.mono : ∀ a0 a1 k, LeO (keystonelaw3_PoolBehind.f k a0 a1) (keystonelaw3_PoolBehind.f (k + 1) a0 a1) := by
  intro a0 a1 k
  obtain ⟨ih0, ih1, ih2, ih3⟩ := keystonelaw3_PoolBehind.mono_l k
  unfold keystonelaw3_PoolBehind.f
  repeat' first
      | (with_reducible exact ih0 _ _ _)
      | (with_reducible exact ih1 _ _ _)
      | (with_reducible exact ih2 _ _ _ _)
      | (with_reducible exact ih3 _ _ _ _)
      | (with_reducible exact keystoneref2_Same.mono _ _ _ _ _ _ _ _ _)
      | (with_reducible exact pool_Check.mono _ _)
      | (with_reducible exact pool_Class.mono _ _ _)
      | (with_reducible exact pool_Field.mono _ _ _)
      | (with_reducible exact pool_Method.mono _ _ _)
      | (with_reducible exact pool_Text.mono _ _ _)
      | (with_reducible exact LeO.refl _)
      | (with_reducible exact LeO.none _)
      | (with_reducible refine LeO.ite ?_ ?_)
      | (with_reducible refine LeO.bind ?_ (fun _ => ?_))
      | exact ih0 _ _ _
      | exact ih1 _ _ _
      | exact ih2 _ _ _ _
      | exact ih3 _ _ _ _
      | exact keystoneref2_Same.mono _ _ _ _ _ _ _ _ _
      | exact pool_Check.mono _ _
      | exact pool_Class.mono _ _ _
      | exact pool_Field.mono _ _ _
      | exact pool_Method.mono _ _ _
      | exact pool_Text.mono _ _ _
      | exact LeO.none _
      | refine LeO.ite ?_ ?_
      | refine LeO.bind ?_ (fun _ => ?_)
set_option maxHeartbeats 8000000 in
set_option maxRecDepth 100000 in
theorem keystonelaw3_PoolBehind.calls (k : Nat) (A0 : Option Addr) (c0 : Nat) (l0 : List (S50)) (A1 : Option Addr) (c1 : Nat) (l1 : List (S50)) (r : Bool) (w : World) (hr0 : Kd.C k50 w A0 l0.length l0) (hc0 : l0.length ≤ c0) (hr1 : Kd.C k50 w A1 l1.length l1) (hc1 : l1.length ≤ c1) (hT : r = true) (h : keystonelaw3_PoolBehind.f k l0 l1 = some r) :
    Calls Tryd.prog 4 #[.slice A0 l0.length c0, .slice A1 l1.length c1] w fun e w' => e = .returned (.bool r) ∧ Below w.heap.size w w' := by
  have hu34 := Tryd.underlying34
  have hu39 := Tryd.underlying39
  have HR0 := Aside0.mk hr0
  have HC0 := Aside0.mk hc0
  clear hr0 hc0
  have HR1 := Aside0.mk hr1
  have HC1 := Aside0.mk hc1
  clear hr1 hc1
  have HB := Aside0.mk (Below.refl w.heap.size w)
  have H : ((keystonelaw3_known.f).bind fun t291 => (if t291 = true then (if (l0.length : Int) > 300 then (keystonelaw3_PoolBehind.j0 k l0 l1 true) else (keystonelaw3_PoolBehind.j0 k l0 l1 (decide ((l1.length : Int) > 300)))) else (some false))) = some r := h
  clear h
  have HT := Aside0.mk hT
  clear hT
  replace H := Option.bind_eq_some_iff.mp H
  obtain ⟨t291, A30, H⟩ := H
  replace H : (if t291 = true then (if (l0.length : Int) > 300 then (keystonelaw3_PoolBehind.j0 k l0 l1 true) else (keystonelaw3_PoolBehind.j0 k l0 l1 (decide ((l1.length : Int) > 300)))) else (some false)) = some r := H
  have A3 := Aside0.mk A30
  clear A30
  by_cases c4 : t291 = true
  · subst c4
    have H1 : (if (l0.length : Int) > 300 then (keystonelaw3_PoolBehind.j0 k l0 l1 true) else (keystonelaw3_PoolBehind.j0 k l0 l1 (decide ((l1.length : Int) > 300)))) = some r := by rw [if_pos rfl] at H; exact H
    clear H
    have H := H1
    clear H1
    have HC5 := Aside0.mk H
    clear H
    go_enter Tryd.func4, Tryd.ntmps4
    go_upto_region 3 with (first | ((with_reducible refine gt_ 14 ?_); refine gc_ 26 Tryd.func14 #[] ?_; (with_reducible refine (keystonelaw3_known.calls  true _ A3.out).mono ?_); rintro e w6 ⟨rfl, hb⟩; refine ⟨_, rfl, ?_⟩; have n0_ := Aside0.mk (below_step B_ hb); clear HB; have HB := n0_; clear n0_; (try clear hb); (try clear hb2); (try clear hk); (try clear hi)))
    (try simp only [Act.put, List.setIfInBounds_toArray, List.set_cons_zero, List.set_cons_succ])
    go_cut [35] (fun v35 wc => ∃ (kq : Nat) (x35_4 : Bool), v35 = .bool x35_4 ∧ Aside0 (keystonelaw3_PoolBehind.j0 kq l0 l1 x35_4 = some r) ∧ Aside0 (kq ≤ k) ∧ Aside0 (Below w.heap.size w wc))
    case first =>
      have H := HC5.out
      clear HC5
      by_cases c7 : (l0.length : Int) > 300
      · rw [if_pos c7] at H
        have c7b0 : decide (300 < (l0.length : Int)) = true := decide_eq_true c7
        have c7b1 : decide (300 < l0.length) = true := decide_eq_true (by omega)
        clear c7
        (first | rw [c7b0] | (simp only [i64_w, i32_w]; rw [c7b0]) | skip)
        have H' := Aside0.mk H
        clear H
        go_wp2
        go_meet
        case rel => exact ⟨_, (true), R_, H', ⟨by first | omega | exact Nat.le_refl _⟩, ⟨B_⟩⟩
      · rw [if_neg c7] at H
        have c7b0 : decide (300 < (l0.length : Int)) = false := decide_eq_false c7
        have c7b1 : decide (300 < l0.length) = false := decide_eq_false (by omega)
        clear c7
        (first | rw [c7b0] | (simp only [i64_w, i32_w]; rw [c7b0]) | skip)
        have H' := Aside0.mk H
        clear H
        go_wp2
        go_meet
        case rel => exact ⟨_, (decide ((l1.length : Int) > 300)), R_, H', ⟨by first | omega | exact Nat.le_refl _⟩, ⟨B_⟩⟩
    case rest =>
      clear HC5
      try clear c1
      try clear p2
      try clear c4
      try clear c7
      try clear c7b0
      try clear c7b1
      obtain ⟨kq, x35_4, rfl, HA, HJ4, HB⟩ := hcut
      cases kq with
      | zero => exact absurd HA.out (by simp [keystonelaw3_PoolBehind.j0])
      | succ kj4 =>
        have H := HA.out
        clear HA
        simp only [keystonelaw3_PoolBehind.j0] at H
        by_cases c8 : x35_4 = true
        · subst c8
          have H1 : (some true) = some r := by rw [if_pos rfl] at H; exact H
          clear H
          have H := H1
          clear H1
          obtain rfl := Option.some.inj H
          go_wp2
          go_ret
          exact ⟨E_, B_⟩
        · replace c8 := Bool.eq_false_iff.mpr c8
          subst c8
          have H1 : ((pool_Check.f kj4 l0).bind fun bt292 => (if bt292.2 = 0 then ((some (([] : List (S50)) : List (S50))).bind fun y294 => (if y294.length + l0.length < 2513169434916 then ((some (y294 ++ l0 : List (S50))).bind fun y297 => (if y297.length + l1.length < 2513169434916 then (keystonelaw3_PoolBehind.l0 kj4 l0 (y297 ++ l1) 0) else (none))) else (none))) else (some true))) = some r := by rw [if_neg (show ¬ (false = true) by decide)] at H; exact H
          clear H
          have H := H1
          clear H1
          replace H := Option.bind_eq_some_iff.mp H
          obtain ⟨⟨t292, t293⟩, A90, H⟩ := H
          replace H : (if t293 = 0 then ((some (([] : List (S50)) : List (S50))).bind fun y294 => (if y294.length + l0.length < 2513169434916 then ((some (y294 ++ l0 : List (S50))).bind fun y297 => (if y297.length + l1.length < 2513169434916 then (keystonelaw3_PoolBehind.l0 kj4 l0 (y297 ++ l1) 0) else (none))) else (none))) else (some true)) = some r := H
          have A9 := Aside0.mk A90
          clear A90
          by_cases c10 : t293 = 0
          · rw [if_pos c10] at H
            have c10b0 : (t293 == 0) = true := beq_iff_eq.mpr c10
            have c10b1 : (t293 != 0) = false := bne_eq_false_iff_eq.mpr c10
            clear c10
            obtain ⟨y294, hy294⟩ : ∃ y_ : List (S50), y_ = (([] : List (S50))) := ⟨_, rfl⟩
            replace H : (if y294.length + l0.length < 2513169434916 then ((some (y294 ++ l0 : List (S50))).bind fun y297 => (if y297.length + l1.length < 2513169434916 then (keystonelaw3_PoolBehind.l0 kj4 l0 (y297 ++ l1) 0) else (none))) else (none)) = some r := by first | (rw [hy294]; with_reducible exact H) | (have H2_ := (Option.bind_some _ _).symm.trans H; rw [hy294]; with_reducible exact H2_) | (have H2_ := (Option.bind_some _ _).symm.trans H; with_reducible exact H2_) | with_reducible exact H | (rw [hy294]; exact H) | exact H
            have Ny294 := Aside0.mk hy294
            clear hy294
            by_cases c11 : y294.length + l0.length < 2513169434916
            · rw [if_pos c11] at H
              have LMc11 := Aside0.mk c11
              clear c11
              obtain ⟨y297, hy297⟩ : ∃ y_ : List (S50), y_ = (y294 ++ l0) := ⟨_, rfl⟩
              replace H : (if y297.length + l1.length < 2513169434916 then (keystonelaw3_PoolBehind.l0 kj4 l0 (y297 ++ l1) 0) else (none)) = some r := by first | (rw [hy297]; with_reducible exact H) | (have H2_ := (Option.bind_some _ _).symm.trans H; rw [hy297]; with_reducible exact H2_) | (have H2_ := (Option.bind_some _ _).symm.trans H; with_reducible exact H2_) | with_reducible exact H | (rw [hy297]; exact H) | exact H
              have Ny297 := Aside0.mk hy297
              clear hy297
              by_cases c12 : y297.length + l1.length < 2513169434916
              · rw [if_pos c12] at H
                have LMc12 := Aside0.mk c12
                clear c12
                obtain ⟨y300, hy300⟩ : ∃ y_ : List (S50), y_ = (y297 ++ l1) := ⟨_, rfl⟩
                replace H : (keystonelaw3_PoolBehind.l0 kj4 l0 y300 0) = some r := by first | (rw [hy300]; with_reducible exact H) | (have H2_ := (Option.bind_some _ _).symm.trans H; rw [hy300]; with_reducible exact H2_) | (have H2_ := (Option.bind_some _ _).symm.trans H; with_reducible exact H2_) | with_reducible exact H | (rw [hy300]; exact H) | exact H
                have Ny300 := Aside0.mk hy300
                clear hy300
                have H' := Aside0.mk H
                clear H
                go_wp2_with (first | ((with_reducible refine gt_ 15 ?_); refine gc_ 38 Tryd.func15 #[.slice A0 l0.length c0] ?_; (with_reducible refine (pool_Check.calls kj4 _ _ l0 t292 t293 _ ?side1 ?side2 A9.out).mono ?_); (case side1 => exact Y_ (Kd.C_below HR0.out HB.out)); (case side2 => exact HC0.out); rintro e w13 ⟨rfl, hb⟩; refine ⟨_, rfl, ?_⟩; have n0_ := Aside0.mk (below_step B_ hb); clear HB; have HB := n0_; clear n0_; (try clear hb); (try clear hb2); (try clear hk); (try clear hi)) | ((with_reducible refine d_ 43 ?_); (try (refine gate_guard (by rfl) ?_; dsimp only)); refine Kd.R_lit k50 _ 50 ?hg (N := 43) ?hd (xs := ([] : List (S50))) (inner := []) (ok := fun _ => True) (okp := fun _ => True) ?hr ?hp (fun _ hk => hk) trivial (Below.refl _ _) (Nat.le_refl _) (by simp) ?_; (case hd => rfl); (case hg => rfl); (case hr => first | (go_simp; done) | (go_simp; rfl)); (case hp => exact (Reps.none _ _)); intro v295 w14 ho15 hb hg_ hnew_; clear hg_ hnew_; (first | rw [← Ny294.out] at ho15 | (simp only [Int.reduceToNat] at ho15; rw [← Ny294.out] at ho15)); have n0_ := Aside0.mk (Kd.R_lower ho15 (below_size B_)); have n1_ := Aside0.mk (below_step B_ hb); clear HB; have HO296 := n0_; have HB := n1_; clear n0_ n1_; clear hb ho15) | ((with_reducible refine gate_builtin (b := .append) (xs := #[.tmp 43, .tmp 44]) rfl ?_); (try (refine gate_guard (by rfl) ?_; dsimp only)); at_builtin; refine Kd.R_append_rows k50 (w0 := w) w.heap.size rfl (.tmp 43) (.tmp 44) 22 50 (.agg #[(.int .i64 0), (.string ⟨#[]⟩), (.int .i64 0), (.int .i64 0), (.int .i64 0), (.int .i64 0)]) 56 rfl Tryd.underlying22 info50 rfl (by decide) (by omega) v295 y294 l0 _ _ _ (fun _ => True) (fun _ => False) rfl rfl ?aO ?aR (fun _ _ h => h) (fun _ h => h.elim) ?aF ?aB ?aS ?aL ?_; (case aR => repeat (first | exact (Kd.C_below HR0.out HB.out) | (with_reducible refine Kd.C_alloc ?_ _) | (with_reducible refine Kd.C_drewN ?_ _) | (with_reducible refine Kd.C_drew ?_))); (case aB => exact B_); (case aF => exact (fun _ _ => trivial)); (case aO => exact (Q_ HO296.out)); (case aS => exact (below_size B_)); (case aL => have := LMc11.out; omega); intro v298 w16 ho hb hg hat; rw [← Ny297.out] at ho; have n0_ := Aside0.mk (hb); have n1_ := Aside0.mk (ho); clear HB; clear HO296; have HB := n0_; have HO299 := n1_; clear n0_ n1_; clear ho hb hg hat) | ((with_reducible refine gate_builtin (b := .append) (xs := #[.tmp 45, .tmp 46]) rfl ?_); (try (refine gate_guard (by rfl) ?_; dsimp only)); at_builtin; refine Kd.R_append_rows k50 (w0 := w) w.heap.size rfl (.tmp 45) (.tmp 46) 22 50 (.agg #[(.int .i64 0), (.string ⟨#[]⟩), (.int .i64 0), (.int .i64 0), (.int .i64 0), (.int .i64 0)]) 56 rfl Tryd.underlying22 info50 rfl (by decide) (by omega) v298 y297 l1 _ _ _ (fun _ => True) (fun _ => False) rfl rfl ?aO ?aR (fun _ _ h => h) (fun _ h => h.elim) ?aF ?aB ?aS ?aL ?_; (case aR => repeat (first | exact (Kd.C_below HR1.out HB.out) | (with_reducible refine Kd.C_alloc ?_ _) | (with_reducible refine Kd.C_drewN ?_ _) | (with_reducible refine Kd.C_drew ?_))); (case aB => exact B_); (case aF => exact (fun _ _ => trivial)); (case aO => exact (Q_ HO299.out)); (case aS => exact (below_size B_)); (case aL => have := LMc12.out; omega); intro v301 w17 ho hb hg hat; rw [← Ny300.out] at ho; have n0_ := Aside0.mk (hb); have n1_ := Aside0.mk (ho); clear HB; clear HO299; have HB := n0_; have HO302 := n1_; clear n0_ n1_; clear ho hb hg hat))
                go_loopg [8] kj4 (fun kq v8 w' => ∃ (x8_2 : Int), v8 = .int .i64 x8_2 ∧ Aside0 (keystonelaw3_PoolBehind.l0 kq l0 y300 x8_2 = some r) ∧ Aside0 (kq ≤ kj4) ∧ Aside0 (Kd.R k50 50 w' w.heap.size (fun _ => True) v301 y300) ∧ Aside0 (Below w.heap.size w w'))
                case atStart => exact ⟨(0), R_, H', ⟨Nat.le_refl _⟩, ⟨by (with_reducible repeat (first | apply Kd.R_alloc | apply Kd.R_drewN | apply Kd.R_drew)); exact HO302.out⟩, ⟨B_⟩⟩
                case round =>
                  clear H'
                  try clear c1
                  try clear p2
                  try clear c4
                  try clear c7
                  try clear c7b0
                  try clear c7b1
                  try clear c8
                  try clear c10
                  try clear c10b0
                  try clear c10b1
                  try clear c11
                  try clear c12
                  try clear c14
                  try clear c15
                  try clear p2
                  obtain ⟨x8_2, rfl, HA, HK2, HO_7, HB⟩ := hrel
                  cases gk with
                  | zero => exact absurd HA.out (by simp [keystonelaw3_PoolBehind.l0])
                  | succ k2 =>
                    have H := HA.out
                    clear HA
                    simp only [keystonelaw3_PoolBehind.l0] at H
                    by_cases c18 : x8_2 < (l0.length : Int)
                    · rw [if_pos c18] at H
                      have c18b0 : decide (x8_2 < (l0.length : Int)) = true := decide_eq_true c18
                      clear c18
                      replace H := Option.bind_eq_some_iff.mp H
                      obtain ⟨⟨t305, t306⟩, A190, H⟩ := H
                      replace H : ((pool_Text.f k2 y300 x8_2).bind fun bt307 => ((pool_Class.f k2 l0 x8_2).bind fun bt309 => ((pool_Class.f k2 y300 x8_2).bind fun bt311 => (if t305.toList = bt307.1.toList then (if t306 = bt307.2 then (if bt309.1.toList = bt311.1.toList then (keystonelaw3_PoolBehind.j2 k2 l0 y300 x8_2 (bt309.2 != bt311.2)) else (keystonelaw3_PoolBehind.j2 k2 l0 y300 x8_2 true)) else (keystonelaw3_PoolBehind.j2 k2 l0 y300 x8_2 true)) else (keystonelaw3_PoolBehind.j2 k2 l0 y300 x8_2 true))))) = some r := H
                      have A19 := Aside0.mk A190
                      clear A190
                      replace H := Option.bind_eq_some_iff.mp H
                      obtain ⟨⟨t307, t308⟩, A200, H⟩ := H
                      replace H : ((pool_Class.f k2 l0 x8_2).bind fun bt309 => ((pool_Class.f k2 y300 x8_2).bind fun bt311 => (if t305.toList = t307.toList then (if t306 = t308 then (if bt309.1.toList = bt311.1.toList then (keystonelaw3_PoolBehind.j2 k2 l0 y300 x8_2 (bt309.2 != bt311.2)) else (keystonelaw3_PoolBehind.j2 k2 l0 y300 x8_2 true)) else (keystonelaw3_PoolBehind.j2 k2 l0 y300 x8_2 true)) else (keystonelaw3_PoolBehind.j2 k2 l0 y300 x8_2 true)))) = some r := H
                      have A20 := Aside0.mk A200
                      clear A200
                      replace H := Option.bind_eq_some_iff.mp H
                      obtain ⟨⟨t309, t310⟩, A210, H⟩ := H
                      replace H : ((pool_Class.f k2 y300 x8_2).bind fun bt311 => (if t305.toList = t307.toList then (if t306 = t308 then (if t309.toList = bt311.1.toList then (keystonelaw3_PoolBehind.j2 k2 l0 y300 x8_2 (t310 != bt311.2)) else (keystonelaw3_PoolBehind.j2 k2 l0 y300 x8_2 true)) else (keystonelaw3_PoolBehind.j2 k2 l0 y300 x8_2 true)) else (keystonelaw3_PoolBehind.j2 k2 l0 y300 x8_2 true))) = some r := H
                      have A21 := Aside0.mk A210
                      clear A210
                      replace H := Option.bind_eq_some_iff.mp H
                      obtain ⟨⟨t311, t312⟩, A220, H⟩ := H
                      replace H : (if t305.toList = t307.toList then (if t306 = t308 then (if t309.toList = t311.toList then (keystonelaw3_PoolBehind.j2 k2 l0 y300 x8_2 (t310 != t312)) else (keystonelaw3_PoolBehind.j2 k2 l0 y300 x8_2 true)) else (keystonelaw3_PoolBehind.j2 k2 l0 y300 x8_2 true)) else (keystonelaw3_PoolBehind.j2 k2 l0 y300 x8_2 true)) = some r := H
                      have A22 := Aside0.mk A220
                      clear A220
                      have HC23 := Aside0.mk H
                      clear H
                      go_upto_region 16 with (first | ((with_reducible refine gt_ 18 ?_); refine gc_ 57 Tryd.func18 #[.slice A0 l0.length c0, .int .i64 x8_2] ?_; (with_reducible refine (pool_Text.calls k2 _ _ l0 x8_2 t305 t306 _ ?side1 ?side2 A19.out).mono ?_); (case side1 => exact Y_ (Kd.C_below HR0.out HB.out)); (case side2 => exact HC0.out); rintro e w24 ⟨rfl, hb⟩; refine ⟨_, rfl, ?_⟩; have n0_ := Aside0.mk (Kd.R_below (Q_ HO_7.out) hb); have n1_ := Aside0.mk (below_step B_ hb); clear HO_7; clear HB; have HO_7 := n0_; have HB := n1_; clear n0_ n1_; (try clear hb); (try clear hb2); (try clear hk); (try clear hi); obtain ⟨Ao25, co25, eo25⟩ := Kd.R_slice HO_7.out; subst eo25) | ((with_reducible refine gt_ 18 ?_); refine gc_ 63 Tryd.func18 #[.slice Ao25 y300.length co25, .int .i64 x8_2] ?_; (with_reducible refine (pool_Text.calls k2 _ _ y300 x8_2 t307 t308 _ ?side1 ?side2 A20.out).mono ?_); (case side1 => repeat (first | exact (Kd.R_reads' HO_7.out).2.2 | (with_reducible refine Kd.C_alloc ?_ _) | (with_reducible refine Kd.C_drewN ?_ _) | (with_reducible refine Kd.C_drew ?_))); (case side2 => exact (Kd.R_reads' HO_7.out).2.1); rintro e w26 ⟨rfl, hb⟩; refine ⟨_, rfl, ?_⟩; have n0_ := Aside0.mk (Kd.R_below (Q_ HO_7.out) hb); have n1_ := Aside0.mk (below_step B_ hb); clear HO_7; clear HB; have HO_7 := n0_; have HB := n1_; clear n0_ n1_; (try clear hb); (try clear hb2); (try clear hk); (try clear hi)) | ((with_reducible refine gt_ 19 ?_); refine gc_ 69 Tryd.func19 #[.slice A0 l0.length c0, .int .i64 x8_2] ?_; (with_reducible refine (pool_Class.calls k2 _ _ l0 x8_2 t309 t310 _ ?side1 ?side2 A21.out).mono ?_); (case side1 => exact Y_ (Kd.C_below HR0.out HB.out)); (case side2 => exact HC0.out); rintro e w27 ⟨rfl, hb⟩; refine ⟨_, rfl, ?_⟩; have n0_ := Aside0.mk (Kd.R_below (Q_ HO_7.out) hb); have n1_ := Aside0.mk (below_step B_ hb); clear HO_7; clear HB; have HO_7 := n0_; have HB := n1_; clear n0_ n1_; (try clear hb); (try clear hb2); (try clear hk); (try clear hi)) | ((with_reducible refine gt_ 19 ?_); refine gc_ 75 Tryd.func19 #[.slice Ao25 y300.length co25, .int .i64 x8_2] ?_; (with_reducible refine (pool_Class.calls k2 _ _ y300 x8_2 t311 t312 _ ?side1 ?side2 A22.out).mono ?_); (case side1 => repeat (first | exact (Kd.R_reads' HO_7.out).2.2 | (with_reducible refine Kd.C_alloc ?_ _) | (with_reducible refine Kd.C_drewN ?_ _) | (with_reducible refine Kd.C_drew ?_))); (case side2 => exact (Kd.R_reads' HO_7.out).2.1); rintro e w28 ⟨rfl, hb⟩; refine ⟨_, rfl, ?_⟩; have n0_ := Aside0.mk (Kd.R_below (Q_ HO_7.out) hb); have n1_ := Aside0.mk (below_step B_ hb); clear HO_7; clear HB; have HO_7 := n0_; have HB := n1_; clear n0_ n1_; (try clear hb); (try clear hb2); (try clear hk); (try clear hi)))
                      (try simp only [Act.put, List.setIfInBounds_toArray, List.set_cons_zero, List.set_cons_succ])
                      go_cut [95] (fun v95 wc => ∃ (kq : Nat) (x95_22 : Bool), v95 = .bool x95_22 ∧ Aside0 (keystonelaw3_PoolBehind.j2 kq l0 y300 x8_2 x95_22 = some r) ∧ Aside0 (kq ≤ k2) ∧ Aside0 (Kd.R k50 50 wc w.heap.size (fun _ => True) (.slice Ao25 y300.length co25) y300) ∧ Aside0 (Below w.heap.size w wc))
                      case first =>
                        have H := HC23.out
                        clear HC23
                        by_cases c29 : t305.toList = t307.toList
                        · rw [if_pos c29] at H
                          have c29b0 : (t305.toList == t307.toList) = true := beq_iff_eq.mpr c29
                          have c29b1 : (t305.toList != t307.toList) = false := bne_eq_false_iff_eq.mpr c29
                          clear c29
                          (first | rw [c29b0] | (simp only [i64_w, i32_w]; rw [c29b0]) | skip)
                          by_cases c30 : t306 = t308
                          · rw [if_pos c30] at H
                            have c30b0 : (t306 == t308) = true := beq_iff_eq.mpr c30
                            have c30b1 : (t306 != t308) = false := bne_eq_false_iff_eq.mpr c30
                            clear c30
                            by_cases c31 : t309.toList = t311.toList
                            · rw [if_pos c31] at H
                              have c31b0 : (t309.toList == t311.toList) = true := beq_iff_eq.mpr c31
                              have c31b1 : (t309.toList != t311.toList) = false := bne_eq_false_iff_eq.mpr c31
                              clear c31
                              have H' := Aside0.mk H
                              clear H
                              go_wp2
                              go_meet
                              case rel => exact ⟨_, ((t310 != t312)), R_, H', ⟨by have := HJ4.out; have := HK2.out; first | omega | exact Nat.le_refl _⟩, ⟨by (with_reducible repeat (first | apply Kd.R_alloc | apply Kd.R_drewN | apply Kd.R_drew)); exact HO_7.out⟩, ⟨B_⟩⟩
                            · rw [if_neg c31] at H
                              have c31b0 : (t309.toList == t311.toList) = false := beq_eq_false_iff_ne.mpr c31
                              have c31b1 : (t309.toList != t311.toList) = true := bne_iff_ne.mpr c31
                              have H' := Aside0.mk H
                              clear H
                              go_wp2
                              go_meet
                              case rel => exact ⟨_, (true), R_, H', ⟨by have := HJ4.out; have := HK2.out; first | omega | exact Nat.le_refl _⟩, ⟨by (with_reducible repeat (first | apply Kd.R_alloc | apply Kd.R_drewN | apply Kd.R_drew)); exact HO_7.out⟩, ⟨B_⟩⟩
                          · rw [if_neg c30] at H
                            have c30b0 : (t306 == t308) = false := beq_eq_false_iff_ne.mpr c30
                            have c30b1 : (t306 != t308) = true := bne_iff_ne.mpr c30
                            have H' := Aside0.mk H
                            clear H
                            go_wp2
                            go_meet
                            case rel => exact ⟨_, (true), R_, H', ⟨by have := HJ4.out; have := HK2.out; first | omega | exact Nat.le_refl _⟩, ⟨by (with_reducible repeat (first | apply Kd.R_alloc | apply Kd.R_drewN | apply Kd.R_drew)); exact HO_7.out⟩, ⟨B_⟩⟩
                        · rw [if_neg c29] at H
                          have c29b0 : (t305.toList == t307.toList) = false := beq_eq_false_iff_ne.mpr c29
                          have c29b1 : (t305.toList != t307.toList) = true := bne_iff_ne.mpr c29
                          (first | rw [c29b0] | (simp only [i64_w, i32_w]; rw [c29b0]) | skip)
                          have H' := Aside0.mk H
                          clear H
                          go_wp2
                          go_meet
                          case rel => exact ⟨_, (true), R_, H', ⟨by have := HJ4.out; have := HK2.out; first | omega | exact Nat.le_refl _⟩, ⟨by (with_reducible repeat (first | apply Kd.R_alloc | apply Kd.R_drewN | apply Kd.R_drew)); exact HO_7.out⟩, ⟨B_⟩⟩
                      case rest =>
                        clear HC23
                        try clear c1
                        try clear c2
                        try clear p2
                        try clear c3
                        try clear c4
                        try clear c7
                        try clear c7b0
                        try clear c7b1
                        try clear c8
                        try clear c10
                        try clear c10b0
                        try clear c10b1
                        try clear c11
                        try clear c12
                        try clear c14
                        try clear c15
                        try clear c18
                        try clear c18b0
                        try clear c19
                        try clear c29
                        try clear c29b0
                        try clear c29b1
                        try clear c30
                        try clear c30b0
                        try clear c30b1
                        try clear c31
                        try clear c31b0
                        try clear c31b1
                        try clear p2
                        obtain ⟨kq, x95_22, rfl, HA, HJ22, HO_7, HB⟩ := hcut
                        cases kq with
                        | zero => exact absurd HA.out (by simp [keystonelaw3_PoolBehind.j2])
                        | succ kj22 =>
                          have H := HA.out
                          clear HA
                          simp only [keystonelaw3_PoolBehind.j2] at H
                          by_cases c32 : x95_22 = true
                          · subst c32
                            have H1 : (some false) = some r := by rw [if_pos rfl] at H; exact H
                            clear H
                            have H := H1
                            clear H1
                            obtain rfl := Option.some.inj H
                            exact absurd HT.out (by decide)
                          · replace c32 := Bool.eq_false_iff.mpr c32
                            subst c32
                            have H1 : ((pool_Field.f kj22 l0 x8_2).bind fun bt313 => ((pool_Field.f kj22 y300 x8_2).bind fun bt319 => (if bt313.1.toList = bt319.1.toList then (if bt313.2.1.toList = bt319.2.1.toList then (if (!(bt313.2.2.1 == bt319.2.2.1) || (!(bt313.2.2.2.1.toList == bt319.2.2.2.1.toList))) = true then (keystonelaw3_PoolBehind.j3 kj22 l0 y300 x8_2 true) else (keystonelaw3_PoolBehind.j3 kj22 l0 y300 x8_2 (bt313.2.2.2.2 != bt319.2.2.2.2))) else (keystonelaw3_PoolBehind.j3 kj22 l0 y300 x8_2 true)) else (keystonelaw3_PoolBehind.j3 kj22 l0 y300 x8_2 true)))) = some r := by rw [if_neg (show ¬ (false = true) by decide)] at H; exact H
                            clear H
                            have H := H1
                            clear H1
                            replace H := Option.bind_eq_some_iff.mp H
                            obtain ⟨⟨t313, t314, t315, t316, t317⟩, A330, H⟩ := H
                            replace H : ((pool_Field.f kj22 y300 x8_2).bind fun bt319 => (if t313.toList = bt319.1.toList then (if t314.toList = bt319.2.1.toList then (if (!(t315 == bt319.2.2.1) || (!(t316.toList == bt319.2.2.2.1.toList))) = true then (keystonelaw3_PoolBehind.j3 kj22 l0 y300 x8_2 true) else (keystonelaw3_PoolBehind.j3 kj22 l0 y300 x8_2 (t317 != bt319.2.2.2.2))) else (keystonelaw3_PoolBehind.j3 kj22 l0 y300 x8_2 true)) else (keystonelaw3_PoolBehind.j3 kj22 l0 y300 x8_2 true))) = some r := H
                            have A33 := Aside0.mk A330
                            clear A330
                            replace H := Option.bind_eq_some_iff.mp H
                            obtain ⟨⟨t319, t320, t321, t322, t323⟩, A340, H⟩ := H
                            replace H : (if t313.toList = t319.toList then (if t314.toList = t320.toList then (if (!(t315 == t321) || (!(t316.toList == t322.toList))) = true then (keystonelaw3_PoolBehind.j3 kj22 l0 y300 x8_2 true) else (keystonelaw3_PoolBehind.j3 kj22 l0 y300 x8_2 (t317 != t323))) else (keystonelaw3_PoolBehind.j3 kj22 l0 y300 x8_2 true)) else (keystonelaw3_PoolBehind.j3 kj22 l0 y300 x8_2 true)) = some r := H
                            have A34 := Aside0.mk A340
                            clear A340
                            have HC35 := Aside0.mk H
                            clear H
                            go_upto_region 20 with (first | ((with_reducible refine gt_ 20 ?_); refine gc_ 99 Tryd.func20 #[.slice A0 l0.length c0, .int .i64 x8_2] ?_; (with_reducible refine (pool_Field.calls kj22 _ _ l0 x8_2 t313 t314 t315 t316 t317 _ ?side1 ?side2 A33.out).mono ?_); (case side1 => exact Y_ (Kd.C_below HR0.out HB.out)); (case side2 => exact HC0.out); rintro e w36 ⟨rfl, hb⟩; refine ⟨_, rfl, ?_⟩; have n0_ := Aside0.mk (Kd.R_below (Q_ HO_7.out) hb); have n1_ := Aside0.mk (below_step B_ hb); clear HO_7; clear HB; have HO_7 := n0_; have HB := n1_; clear n0_ n1_; (try clear hb); (try clear hb2); (try clear hk); (try clear hi)) | ((with_reducible refine d_ 19 ?_); (try (refine gate_guard (by rfl) ?_; dsimp only)); refine X_ 19 #[.int .i64 0, .string (⟨#[]⟩ : ByteArray)] 34 ?_; intro gb318 hg w37 hbox hb; have n0_ := Aside0.mk (Kd.R_below (Q_ HO_7.out) hb); have n1_ := Aside0.mk (below_step B_ hb); have n2_ := Aside0.mk (hbox); have n3_ := Aside0.mk (s_ hg); have n4_ := Aside0.mk (s_ hg); clear HO_7; clear HB; have HO_7 := n0_; have HB := n1_; have BK318 := n2_; have GW318 := n3_; have GE318 := n4_; clear n0_ n1_ n2_ n3_ n4_; clear hb hbox hg; obtain ⟨hcz38_0, hcz38_1, hfz38_0, hfz38_1⟩ := c2_ BK318.out) | ((with_reducible refine gt_ 20 ?_); refine gc_ 107 Tryd.func20 #[.slice Ao25 y300.length co25, .int .i64 x8_2] ?_; (with_reducible refine (pool_Field.calls kj22 _ _ y300 x8_2 t319 t320 t321 t322 t323 _ ?side1 ?side2 A34.out).mono ?_); (case side1 => refine (Kd.R_reads' (e := 50) (base := w.heap.size) (ok := fun k_ => True) (n := y300.length) (c := co25) ?_).2.2; exact (by (with_reducible repeat (first | apply Kd.R_alloc | apply Kd.R_drewN | apply Kd.R_drew)); exact (Kd.R_mono (Kd.R_far (p := ⟨gb318, 1, none⟩) (Kd.R_far (p := ⟨gb318, 0, none⟩) (Kd.R_types HO_7.out BK318.out (by decide)) (fun _ hk => hk.2) (.int .i64 t315)) (fun _ hk => hk.2) (.string t316)) (fun _ h_ => h_.1)))); (case side2 => exact (Kd.R_reads' HO_7.out).2.1); rintro e w39 ⟨rfl, hb⟩; refine ⟨_, rfl, ?_⟩; have n0_ := Aside0.mk (Kd.R_below (by (with_reducible repeat (first | apply Kd.R_alloc | apply Kd.R_drewN | apply Kd.R_drew)); exact (Kd.R_mono (Kd.R_far (p := ⟨gb318, 1, none⟩) (Kd.R_far (p := ⟨gb318, 0, none⟩) (Kd.R_types HO_7.out BK318.out (by decide)) (fun _ hk => hk.2) (.int .i64 t315)) (fun _ hk => hk.2) (.string t316)) (fun _ h_ => h_.1))) hb); have n1_ := Aside0.mk (blk_below (g := gb318) (o := .cells #[.int .i64 t315, .string t316] 34 (0, 0)) P_ hb); have n2_ := Aside0.mk (below_step B_ hb); clear HO_7; clear BK318; clear HB; have HO_7 := n0_; have BK318 := n1_; have HB := n2_; clear n0_ n1_ n2_; (try clear hb); (try clear hb2); (try clear hk); (try clear hi)) | ((with_reducible refine d_ 22 ?_); (try (refine gate_guard (by rfl) ?_; dsimp only)); refine X_ 22 #[.int .i64 0, .string (⟨#[]⟩ : ByteArray)] 34 ?_; intro gb324 hg w40 hbox hb; have n0_ := Aside0.mk (Kd.R_below (Q_ HO_7.out) hb); have n1_ := Aside0.mk (blk_below (g := gb318) (o := .cells #[.int .i64 t315, .string t316] 34 (0, 0)) M_ hb); have n2_ := Aside0.mk (below_step B_ hb); have n3_ := Aside0.mk (hbox); have n4_ := Aside0.mk (s_ hg); have n5_ := Aside0.mk (s_ hg); have n6_ := Aside0.mk (x_ hg (g := gb318) (o := .cells #[.int .i64 t315, .string t316] 34 (0, 0)) M_); have n7_ := Aside0.mk n6_.out.symm; clear HO_7; clear BK318; clear HB; have HO_7 := n0_; have BK318 := n1_; have HB := n2_; have BK324 := n3_; have GW324 := n4_; have GE324 := n5_; have NB318_324 := n6_; have NB324_318 := n7_; clear n0_ n1_ n2_ n3_ n4_ n5_ n6_ n7_; clear hb hbox hg; have hnb41 := NB324_318.out; have hnc41 := NB318_324.out; obtain ⟨hcz42_0, hcz42_1, hfz42_0, hfz42_1⟩ := c2_ BK324.out))
                            (try simp only [Act.put, List.setIfInBounds_toArray, List.set_cons_zero, List.set_cons_succ])
                            go_cut [129] (fun v129 wc => ∃ (kq : Nat) (x129_34 : Bool), v129 = .bool x129_34 ∧ Aside0 (keystonelaw3_PoolBehind.j3 kq l0 y300 x8_2 x129_34 = some r) ∧ Aside0 (kq ≤ kj22) ∧ Aside0 (Kd.R k50 50 wc w.heap.size (fun _ => True) (.slice Ao25 y300.length co25) y300) ∧ Aside0 (wc.heap[gb318]? = some (.cells #[.int .i64 t315, .string t316] 34 (0, 0))) ∧ Aside0 (wc.heap[gb324]? = some (.cells #[.int .i64 t321, .string t322] 34 (0, 0))) ∧ Aside0 (Below w.heap.size w wc))
                            case first =>
                              have H := HC35.out
                              clear HC35
                              by_cases c43 : t313.toList = t319.toList
                              · rw [if_pos c43] at H
                                have c43b0 : (t313.toList == t319.toList) = true := beq_iff_eq.mpr c43
                                have c43b1 : (t313.toList != t319.toList) = false := bne_eq_false_iff_eq.mpr c43
                                clear c43
                                (first | rw [c43b0] | (simp only [i64_w, i32_w]; rw [c43b0]) | skip)
                                by_cases c44 : t314.toList = t320.toList
                                · rw [if_pos c44] at H
                                  have c44b0 : (t314.toList == t320.toList) = true := beq_iff_eq.mpr c44
                                  have c44b1 : (t314.toList != t320.toList) = false := bne_eq_false_iff_eq.mpr c44
                                  clear c44
                                  by_cases c45 : (!(t315 == t321) || (!(t316.toList == t322.toList))) = true
                                  · rw [if_pos c45] at H
                                    have c45b0 : (!(t315 == t321) || (!(t316.toList == t322.toList))) = true := c45
                                    clear c45
                                    have H' := Aside0.mk H
                                    clear H
                                    have hnb46 := NB318_324.out
                                    have hnc46 := NB324_318.out
                                    obtain ⟨hcz47_0, hcz47_1, hfz47_0, hfz47_1⟩ := c2_ BK318.out
                                    obtain ⟨hcz48_0, hcz48_1, hfz48_0, hfz48_1⟩ := c2_ BK324.out
                                    go_wp2
                                    go_meet
                                    case rel => exact ⟨_, (true), R_, H', ⟨by have := HJ4.out; have := HK2.out; have := HJ22.out; first | omega | exact Nat.le_refl _⟩, ⟨by (with_reducible repeat (first | apply Kd.R_alloc | apply Kd.R_drewN | apply Kd.R_drew)); exact Kd.R_mono (Kd.R_far (p := ⟨gb324, 1, none⟩) (Kd.R_far (p := ⟨gb324, 0, none⟩) (Kd.R_types HO_7.out BK324.out (by decide)) (fun _ hk => hk.2) (.int .i64 t321)) (fun _ hk => hk.2) (.string t322)) (fun _ hk => trivial)⟩, ⟨P_⟩, ⟨P_⟩, ⟨B_⟩⟩
                                  · rw [if_neg c45] at H
                                    have c45b0 : (!(t315 == t321) || (!(t316.toList == t322.toList))) = false := by simpa using c45
                                    clear c45
                                    have H' := Aside0.mk H
                                    clear H
                                    have hnb49 := NB318_324.out
                                    have hnc49 := NB324_318.out
                                    obtain ⟨hcz50_0, hcz50_1, hfz50_0, hfz50_1⟩ := c2_ BK318.out
                                    obtain ⟨hcz51_0, hcz51_1, hfz51_0, hfz51_1⟩ := c2_ BK324.out
                                    go_wp2
                                    go_meet
                                    case rel => exact ⟨_, ((t317 != t323)), R_, H', ⟨by have := HJ4.out; have := HK2.out; have := HJ22.out; first | omega | exact Nat.le_refl _⟩, ⟨by (with_reducible repeat (first | apply Kd.R_alloc | apply Kd.R_drewN | apply Kd.R_drew)); exact Kd.R_mono (Kd.R_far (p := ⟨gb324, 1, none⟩) (Kd.R_far (p := ⟨gb324, 0, none⟩) (Kd.R_types HO_7.out BK324.out (by decide)) (fun _ hk => hk.2) (.int .i64 t321)) (fun _ hk => hk.2) (.string t322)) (fun _ hk => trivial)⟩, ⟨P_⟩, ⟨P_⟩, ⟨B_⟩⟩
                                · rw [if_neg c44] at H
                                  have c44b0 : (t314.toList == t320.toList) = false := beq_eq_false_iff_ne.mpr c44
                                  have c44b1 : (t314.toList != t320.toList) = true := bne_iff_ne.mpr c44
                                  have H' := Aside0.mk H
                                  clear H
                                  go_wp2
                                  go_meet
                                  case rel => exact ⟨_, (true), R_, H', ⟨by have := HJ4.out; have := HK2.out; have := HJ22.out; first | omega | exact Nat.le_refl _⟩, ⟨by (with_reducible repeat (first | apply Kd.R_alloc | apply Kd.R_drewN | apply Kd.R_drew)); exact Kd.R_mono (Kd.R_far (p := ⟨gb324, 1, none⟩) (Kd.R_far (p := ⟨gb324, 0, none⟩) (Kd.R_types HO_7.out BK324.out (by decide)) (fun _ hk => hk.2) (.int .i64 t321)) (fun _ hk => hk.2) (.string t322)) (fun _ hk => trivial)⟩, ⟨P_⟩, ⟨P_⟩, ⟨B_⟩⟩
                              · rw [if_neg c43] at H
                                have c43b0 : (t313.toList == t319.toList) = false := beq_eq_false_iff_ne.mpr c43
                                have c43b1 : (t313.toList != t319.toList) = true := bne_iff_ne.mpr c43
                                (first | rw [c43b0] | (simp only [i64_w, i32_w]; rw [c43b0]) | skip)
                                have H' := Aside0.mk H
                                clear H
                                go_wp2
                                go_meet
                                case rel => exact ⟨_, (true), R_, H', ⟨by have := HJ4.out; have := HK2.out; have := HJ22.out; first | omega | exact Nat.le_refl _⟩, ⟨by (with_reducible repeat (first | apply Kd.R_alloc | apply Kd.R_drewN | apply Kd.R_drew)); exact Kd.R_mono (Kd.R_far (p := ⟨gb324, 1, none⟩) (Kd.R_far (p := ⟨gb324, 0, none⟩) (Kd.R_types HO_7.out BK324.out (by decide)) (fun _ hk => hk.2) (.int .i64 t321)) (fun _ hk => hk.2) (.string t322)) (fun _ hk => trivial)⟩, ⟨P_⟩, ⟨P_⟩, ⟨B_⟩⟩
                            case rest =>
                              clear HC35
                              try clear c1
                              try clear c2
                              try clear p2
                              try clear c3
                              try clear c4
                              try clear c7
                              try clear c7b0
                              try clear c7b1
                              try clear c8
                              try clear c10
                              try clear c10b0
                              try clear c10b1
                              try clear c11
                              try clear c12
                              try clear c14
                              try clear c15
                              try clear c18
                              try clear c18b0
                              try clear c19
                              try clear c20
                              try clear c29
                              try clear c29b0
                              try clear c29b1
                              try clear c30
                              try clear c30b0
                              try clear c30b1
                              try clear c31
                              try clear c31b0
                              try clear c31b1
                              try clear c32
                              try clear c41
                              try clear c43
                              try clear c43b0
                              try clear c43b1
                              try clear c44
                              try clear c44b0
                              try clear c44b1
                              try clear c45
                              try clear c45b0
                              try clear c46
                              try clear c49
                              try clear hcz38_0 hcz38_1 hfz38_0 hfz38_1
                              try clear hcz42_0 hcz42_1 hfz42_0 hfz42_1
                              try clear hcz47_0 hcz47_1 hfz47_0 hfz47_1
                              try clear hcz48_0 hcz48_1 hfz48_0 hfz48_1
                              try clear hcz50_0 hcz50_1 hfz50_0 hfz50_1
                              try clear hcz51_0 hcz51_1 hfz51_0 hfz51_1
                              try clear p2
                              obtain ⟨kq, x129_34, rfl, HA, HJ34, HO_7, BK318, BK324, HB⟩ := hcut
                              cases kq with
                              | zero => exact absurd HA.out (by simp [keystonelaw3_PoolBehind.j3])
                              | succ kj34 =>
                                have H := HA.out
                                clear HA
                                simp only [keystonelaw3_PoolBehind.j3] at H
                                by_cases c52 : x129_34 = true
                                · subst c52
                                  have H1 : (some false) = some r := by rw [if_pos rfl] at H; exact H
                                  clear H
                                  have H := H1
                                  clear H1
                                  obtain rfl := Option.some.inj H
                                  exact absurd HT.out (by decide)
                                · replace c52 := Bool.eq_false_iff.mpr c52
                                  subst c52
                                  have H1 : ((pool_Method.f kj34 l0 x8_2).bind fun bt325 => ((pool_Method.f kj34 y300 x8_2).bind fun bt335 => (if bt325.1.toList = bt335.1.toList then (if bt325.2.1.toList = bt335.2.1.toList then ((keystoneref2_Same.f kj34 bt325.2.2.1 bt325.2.2.2.1 bt325.2.2.2.2.1 bt325.2.2.2.2.2.1 bt335.2.2.1 bt335.2.2.2.1 bt335.2.2.2.2.1 bt335.2.2.2.2.2.1).bind fun t345 => (if t345 = true then (if bt325.2.2.2.2.2.2 = bt335.2.2.2.2.2.2 then (keystonelaw3_PoolBehind.l0 kj34 l0 y300 (wrap64 (x8_2 + 1))) else (some false)) else (some false))) else (some false)) else (some false)))) = some r := by rw [if_neg (show ¬ (false = true) by decide)] at H; exact H
                                  clear H
                                  have H := H1
                                  clear H1
                                  replace H := Option.bind_eq_some_iff.mp H
                                  obtain ⟨⟨t325, t326, t327, t330, t331, t332, t333⟩, A530, H⟩ := H
                                  replace H : ((pool_Method.f kj34 y300 x8_2).bind fun bt335 => (if t325.toList = bt335.1.toList then (if t326.toList = bt335.2.1.toList then ((keystoneref2_Same.f kj34 t327 t330 t331 t332 bt335.2.2.1 bt335.2.2.2.1 bt335.2.2.2.2.1 bt335.2.2.2.2.2.1).bind fun t345 => (if t345 = true then (if t333 = bt335.2.2.2.2.2.2 then (keystonelaw3_PoolBehind.l0 kj34 l0 y300 (wrap64 (x8_2 + 1))) else (some false)) else (some false))) else (some false)) else (some false))) = some r := H
                                  have A53 := Aside0.mk A530
                                  clear A530
                                  replace H := Option.bind_eq_some_iff.mp H
                                  obtain ⟨⟨t335, t336, t337, t340, t341, t342, t343⟩, A540, H⟩ := H
                                  replace H : (if t325.toList = t335.toList then (if t326.toList = t336.toList then ((keystoneref2_Same.f kj34 t327 t330 t331 t332 t337 t340 t341 t342).bind fun t345 => (if t345 = true then (if t333 = t343 then (keystonelaw3_PoolBehind.l0 kj34 l0 y300 (wrap64 (x8_2 + 1))) else (some false)) else (some false))) else (some false)) else (some false)) = some r := H
                                  have A54 := Aside0.mk A540
                                  clear A540
                                  by_cases c55 : t325.toList = t335.toList
                                  · rw [if_pos c55] at H
                                    have c55b0 : (t325.toList == t335.toList) = true := beq_iff_eq.mpr c55
                                    have c55b1 : (t325.toList != t335.toList) = false := bne_eq_false_iff_eq.mpr c55
                                    clear c55
                                    by_cases c56 : t326.toList = t336.toList
                                    · rw [if_pos c56] at H
                                      have c56b0 : (t326.toList == t336.toList) = true := beq_iff_eq.mpr c56
                                      have c56b1 : (t326.toList != t336.toList) = false := bne_eq_false_iff_eq.mpr c56
                                      clear c56
                                      replace H := Option.bind_eq_some_iff.mp H
                                      obtain ⟨t345, A570, H⟩ := H
                                      replace H : (if t345 = true then (if t333 = t343 then (keystonelaw3_PoolBehind.l0 kj34 l0 y300 (wrap64 (x8_2 + 1))) else (some false)) else (some false)) = some r := H
                                      have A57 := Aside0.mk A570
                                      clear A570
                                      by_cases c58 : t345 = true
                                      · subst c58
                                        have H1 : (if t333 = t343 then (keystonelaw3_PoolBehind.l0 kj34 l0 y300 (wrap64 (x8_2 + 1))) else (some false)) = some r := by rw [if_pos rfl] at H; exact H
                                        clear H
                                        have H := H1
                                        clear H1
                                        by_cases c59 : t333 = t343
                                        · rw [if_pos c59] at H
                                          have c59b0 : (t333 == t343) = true := beq_iff_eq.mpr c59
                                          have c59b1 : (t333 != t343) = false := bne_eq_false_iff_eq.mpr c59
                                          clear c59
                                          have H' := Aside0.mk H
                                          clear H
                                          go_wp2_with (first | ((with_reducible refine gt_ 21 ?_); refine gc_ 133 Tryd.func21 #[.slice A0 l0.length c0, .int .i64 x8_2] ?_; (with_reducible refine (pool_Method.calls kj34 _ _ l0 x8_2 t325 t326 t327 t330 t331 t332 t333 _ ?side1 ?side2 A53.out).mono ?_); (case side1 => exact Y_ (Kd.C_below HR0.out HB.out)); (case side2 => exact HC0.out); rintro e w60 ⟨v328, rfl, ho0, hb⟩; refine ⟨_, rfl, ?_⟩; have n0_ := Aside0.mk (Kd.R_below (Q_ HO_7.out) hb); have n1_ := Aside0.mk (Kd.R_lower (Kd.R_newB (Kd.R_newB ho0 (g := gb318) (o := .cells #[.int .i64 t315, .string t316] 34 (0, 0)) M_) (g := gb324) (o := .cells #[.int .i64 t321, .string t322] 34 (0, 0)) M_) (below_size B_)); have n2_ := Aside0.mk (blk_below (g := gb318) (o := .cells #[.int .i64 t315, .string t316] 34 (0, 0)) M_ hb); have n3_ := Aside0.mk (blk_below (g := gb324) (o := .cells #[.int .i64 t321, .string t322] 34 (0, 0)) M_ hb); have n4_ := Aside0.mk (below_step B_ hb); clear HO_7; clear BK318; clear BK324; clear HB; have HO_7 := n0_; have HO329 := n1_; have BK318 := n2_; have BK324 := n3_; have HB := n4_; clear n0_ n1_ n2_ n3_ n4_; (try clear hb); (try clear hb2); (try clear hk); (try clear hi); (try clear ho0)) | ((with_reducible refine d_ 23 ?_); (try (refine gate_guard (by rfl) ?_; dsimp only)); refine X_ 23 #[.slice none 0 0, .bool false, .int .i64 0, .string (⟨#[]⟩ : ByteArray)] 39 ?_; intro gb334 hg w61 hbox hb; have n0_ := Aside0.mk (Kd.R_below (Q_ HO_7.out) hb); have n1_ := Aside0.mk (Kd.R_below (Q_ HO329.out) hb); have n2_ := Aside0.mk (blk_below (g := gb318) (o := .cells #[.int .i64 t315, .string t316] 34 (0, 0)) M_ hb); have n3_ := Aside0.mk (blk_below (g := gb324) (o := .cells #[.int .i64 t321, .string t322] 34 (0, 0)) M_ hb); have n4_ := Aside0.mk (below_step B_ hb); have n5_ := Aside0.mk (hbox); have n6_ := Aside0.mk (s_ hg); have n7_ := Aside0.mk (s_ hg); have n8_ := Aside0.mk (x_ hg (g := gb318) (o := .cells #[.int .i64 t315, .string t316] 34 (0, 0)) M_); have n9_ := Aside0.mk n8_.out.symm; have n10_ := Aside0.mk (x_ hg (g := gb324) (o := .cells #[.int .i64 t321, .string t322] 34 (0, 0)) M_); have n11_ := Aside0.mk n10_.out.symm; clear HO_7; clear HO329; clear BK318; clear BK324; clear HB; have HO_7 := n0_; have HO329 := n1_; have BK318 := n2_; have BK324 := n3_; have HB := n4_; have BK334 := n5_; have GW334 := n6_; have GE334 := n7_; have NB318_334 := n8_; have NB334_318 := n9_; have NB324_334 := n10_; have NB334_324 := n11_; clear n0_ n1_ n2_ n3_ n4_ n5_ n6_ n7_ n8_ n9_ n10_ n11_; clear hb hbox hg; obtain ⟨Ao62, co62, eo62⟩ := Kd.R_slice HO329.out; subst eo62; have hnb63 := NB334_318.out; have hnc63 := NB318_334.out; have hnb64 := NB334_324.out; have hnc64 := NB324_334.out; obtain ⟨hcz65_0, hcz65_1, hcz65_2, hcz65_3, hfz65_0, hfz65_1, hfz65_2, hfz65_3⟩ := c4_ BK334.out) | ((with_reducible refine gt_ 21 ?_); refine gc_ 141 Tryd.func21 #[.slice Ao25 y300.length co25, .int .i64 x8_2] ?_; (with_reducible refine (pool_Method.calls kj34 _ _ y300 x8_2 t335 t336 t337 t340 t341 t342 t343 _ ?side1 ?side2 A54.out).mono ?_); (case side1 => refine (Kd.R_reads' (e := 50) (base := w.heap.size) (ok := fun k_ => True) (n := y300.length) (c := co25) ?_).2.2; exact (by (with_reducible repeat (first | apply Kd.R_alloc | apply Kd.R_drewN | apply Kd.R_drew)); exact (Kd.R_mono (Kd.R_far (p := ⟨gb334, 3, none⟩) (Kd.R_far (p := ⟨gb334, 2, none⟩) (Kd.R_far (p := ⟨gb334, 1, none⟩) (Kd.R_far (p := ⟨gb334, 0, none⟩) (Kd.R_types HO_7.out BK334.out (by decide)) (fun _ hk => hk.2) (.slice Ao62 t327.length co62)) (fun _ hk => hk.2) (.bool t330)) (fun _ hk => hk.2) (.int .i64 t331)) (fun _ hk => hk.2) (.string t332)) (fun _ h_ => h_.1)))); (case side2 => exact (Kd.R_reads' HO_7.out).2.1); rintro e w66 ⟨v338, rfl, ho0, hb⟩; refine ⟨_, rfl, ?_⟩; have n0_ := Aside0.mk (Kd.R_below (by (with_reducible repeat (first | apply Kd.R_alloc | apply Kd.R_drewN | apply Kd.R_drew)); exact (Kd.R_mono (Kd.R_far (p := ⟨gb334, 3, none⟩) (Kd.R_far (p := ⟨gb334, 2, none⟩) (Kd.R_far (p := ⟨gb334, 1, none⟩) (Kd.R_far (p := ⟨gb334, 0, none⟩) (Kd.R_types HO_7.out BK334.out (by decide)) (fun _ hk => hk.2) (.slice Ao62 t327.length co62)) (fun _ hk => hk.2) (.bool t330)) (fun _ hk => hk.2) (.int .i64 t331)) (fun _ hk => hk.2) (.string t332)) (fun _ h_ => h_.1))) hb); have n1_ := Aside0.mk (Kd.R_elder' (by (with_reducible repeat (first | apply Kd.R_alloc | apply Kd.R_drewN | apply Kd.R_drew)); exact (Kd.R_mono (Kd.R_far (p := ⟨gb334, 3, none⟩) (Kd.R_far (p := ⟨gb334, 2, none⟩) (Kd.R_far (p := ⟨gb334, 1, none⟩) (Kd.R_far (p := ⟨gb334, 0, none⟩) (Kd.R_types HO329.out BK334.out (by decide)) (fun _ hk => hk.2) (.slice Ao62 t327.length co62)) (fun _ hk => hk.2) (.bool t330)) (fun _ hk => hk.2) (.int .i64 t331)) (fun _ hk => hk.2) (.string t332)) (fun _ h_ => h_.1))) (Kd.R_base ho0) hb); have n2_ := Aside0.mk (Kd.R_lower (Kd.R_newB (Kd.R_newB (Kd.R_new' ho0 (Kd.R_lt (by (with_reducible repeat (first | apply Kd.R_alloc | apply Kd.R_drewN | apply Kd.R_drew)); exact (Kd.R_mono (Kd.R_far (p := ⟨gb334, 3, none⟩) (Kd.R_far (p := ⟨gb334, 2, none⟩) (Kd.R_far (p := ⟨gb334, 1, none⟩) (Kd.R_far (p := ⟨gb334, 0, none⟩) (Kd.R_types HO329.out BK334.out (by decide)) (fun _ hk => hk.2) (.slice Ao62 t327.length co62)) (fun _ hk => hk.2) (.bool t330)) (fun _ hk => hk.2) (.int .i64 t331)) (fun _ hk => hk.2) (.string t332)) (fun _ h_ => h_.1))))) (g := gb318) (o := .cells #[.int .i64 t315, .string t316] 34 (0, 0)) P_) (g := gb324) (o := .cells #[.int .i64 t321, .string t322] 34 (0, 0)) P_) (below_size B_)); have n3_ := Aside0.mk (blk_below (g := gb318) (o := .cells #[.int .i64 t315, .string t316] 34 (0, 0)) P_ hb); have n4_ := Aside0.mk (blk_below (g := gb324) (o := .cells #[.int .i64 t321, .string t322] 34 (0, 0)) P_ hb); have n5_ := Aside0.mk (blk_below (g := gb334) (o := .cells #[.slice Ao62 t327.length co62, .bool t330, .int .i64 t331, .string t332] 39 (0, 0)) P_ hb); have n6_ := Aside0.mk (below_step B_ hb); clear HO_7; clear HO329; clear BK318; clear BK324; clear BK334; clear HB; have HO_7 := n0_; have HO329 := n1_; have HO339 := n2_; have BK318 := n3_; have BK324 := n4_; have BK334 := n5_; have HB := n6_; clear n0_ n1_ n2_ n3_ n4_ n5_ n6_; (try clear hb); (try clear hb2); (try clear hk); (try clear hi); (try clear ho0)) | ((with_reducible refine d_ 24 ?_); (try (refine gate_guard (by rfl) ?_; dsimp only)); refine X_ 24 #[.slice none 0 0, .bool false, .int .i64 0, .string (⟨#[]⟩ : ByteArray)] 39 ?_; intro gb344 hg w67 hbox hb; have n0_ := Aside0.mk (Kd.R_below (Q_ HO_7.out) hb); have n1_ := Aside0.mk (Kd.R_below (Q_ HO329.out) hb); have n2_ := Aside0.mk (Kd.R_below (Q_ HO339.out) hb); have n3_ := Aside0.mk (blk_below (g := gb318) (o := .cells #[.int .i64 t315, .string t316] 34 (0, 0)) M_ hb); have n4_ := Aside0.mk (blk_below (g := gb324) (o := .cells #[.int .i64 t321, .string t322] 34 (0, 0)) M_ hb); have n5_ := Aside0.mk (blk_below (g := gb334) (o := .cells #[.slice Ao62 t327.length co62, .bool t330, .int .i64 t331, .string t332] 39 (0, 0)) M_ hb); have n6_ := Aside0.mk (below_step B_ hb); have n7_ := Aside0.mk (hbox); have n8_ := Aside0.mk (s_ hg); have n9_ := Aside0.mk (s_ hg); have n10_ := Aside0.mk (x_ hg (g := gb318) (o := .cells #[.int .i64 t315, .string t316] 34 (0, 0)) M_); have n11_ := Aside0.mk n10_.out.symm; have n12_ := Aside0.mk (x_ hg (g := gb324) (o := .cells #[.int .i64 t321, .string t322] 34 (0, 0)) M_); have n13_ := Aside0.mk n12_.out.symm; have n14_ := Aside0.mk (x_ hg (g := gb334) (o := .cells #[.slice Ao62 t327.length co62, .bool t330, .int .i64 t331, .string t332] 39 (0, 0)) M_); have n15_ := Aside0.mk n14_.out.symm; clear HO_7; clear HO329; clear HO339; clear BK318; clear BK324; clear BK334; clear HB; have HO_7 := n0_; have HO329 := n1_; have HO339 := n2_; have BK318 := n3_; have BK324 := n4_; have BK334 := n5_; have HB := n6_; have BK344 := n7_; have GW344 := n8_; have GE344 := n9_; have NB318_344 := n10_; have NB344_318 := n11_; have NB324_344 := n12_; have NB344_324 := n13_; have NB334_344 := n14_; have NB344_334 := n15_; clear n0_ n1_ n2_ n3_ n4_ n5_ n6_ n7_ n8_ n9_ n10_ n11_ n12_ n13_ n14_ n15_; clear hb hbox hg; obtain ⟨Ao68, co68, eo68⟩ := Kd.R_slice HO339.out; subst eo68; have hnb69 := NB344_318.out; have hnc69 := NB318_344.out; have hnb70 := NB344_324.out; have hnc70 := NB324_344.out; have hnb71 := NB344_334.out; have hnc71 := NB334_344.out; obtain ⟨hcz72_0, hcz72_1, hcz72_2, hcz72_3, hfz72_0, hfz72_1, hfz72_2, hfz72_3⟩ := c4_ BK344.out; obtain ⟨hcz73_0, hcz73_1, hcz73_2, hcz73_3, hfz73_0, hfz73_1, hfz73_2, hfz73_3⟩ := c4_ BK334.out) | (go_at_call 22; (with_reducible refine (keystoneref2_Same.calls kj34 _ _ t327 t330 t331 t332 _ _ t337 t340 t341 t342 true _ ?side1 ?side2 ?side3 ?side4 A57.out).mono ?_); (case side1 => refine (Kd.R_reads' (e := 34) (base := w.heap.size) (ok := fun k_ => (((True ∧ k_ ≠ gb318) ∧ k_ ≠ gb324) ∧ some k_ ≠ (.slice Ao68 t337.length co68 : Value).ownBlock)) (n := t327.length) (c := co62) ?_).2.2; exact (by (with_reducible repeat (first | apply Kd.R_alloc | apply Kd.R_drewN | apply Kd.R_drew)); exact (Kd.R_mono (Kd.R_far (p := ⟨gb344, 3, none⟩) (Kd.R_far (p := ⟨gb344, 2, none⟩) (Kd.R_far (p := ⟨gb344, 1, none⟩) (Kd.R_far (p := ⟨gb344, 0, none⟩) (Kd.R_types HO329.out BK344.out (by decide)) (fun _ hk => hk.2) (.slice Ao68 t337.length co68)) (fun _ hk => hk.2) (.bool t340)) (fun _ hk => hk.2) (.int .i64 t341)) (fun _ hk => hk.2) (.string t342)) (fun _ h_ => h_.1)))); (case side2 => exact (Kd.R_reads' HO329.out).2.1); (case side3 => refine (Kd.R_reads' (e := 34) (base := w.heap.size) (ok := fun k_ => (((True ∧ some k_ ≠ (.slice Ao62 t327.length co62 : Value).ownBlock) ∧ k_ ≠ gb318) ∧ k_ ≠ gb324)) (n := t337.length) (c := co68) ?_).2.2; exact (by (with_reducible repeat (first | apply Kd.R_alloc | apply Kd.R_drewN | apply Kd.R_drew)); exact (Kd.R_mono (Kd.R_far (p := ⟨gb344, 3, none⟩) (Kd.R_far (p := ⟨gb344, 2, none⟩) (Kd.R_far (p := ⟨gb344, 1, none⟩) (Kd.R_far (p := ⟨gb344, 0, none⟩) (Kd.R_types HO339.out BK344.out (by decide)) (fun _ hk => hk.2) (.slice Ao68 t337.length co68)) (fun _ hk => hk.2) (.bool t340)) (fun _ hk => hk.2) (.int .i64 t341)) (fun _ hk => hk.2) (.string t342)) (fun _ h_ => h_.1)))); (case side4 => exact (Kd.R_reads' HO339.out).2.1); rintro e w74 ⟨rfl, hb⟩; have n0_ := Aside0.mk (Kd.R_below (by (with_reducible repeat (first | apply Kd.R_alloc | apply Kd.R_drewN | apply Kd.R_drew)); exact (Kd.R_mono (Kd.R_far (p := ⟨gb344, 3, none⟩) (Kd.R_far (p := ⟨gb344, 2, none⟩) (Kd.R_far (p := ⟨gb344, 1, none⟩) (Kd.R_far (p := ⟨gb344, 0, none⟩) (Kd.R_types HO_7.out BK344.out (by decide)) (fun _ hk => hk.2) (.slice Ao68 t337.length co68)) (fun _ hk => hk.2) (.bool t340)) (fun _ hk => hk.2) (.int .i64 t341)) (fun _ hk => hk.2) (.string t342)) (fun _ h_ => h_.1))) hb); have n1_ := Aside0.mk (Kd.R_below (by (with_reducible repeat (first | apply Kd.R_alloc | apply Kd.R_drewN | apply Kd.R_drew)); exact (Kd.R_mono (Kd.R_far (p := ⟨gb344, 3, none⟩) (Kd.R_far (p := ⟨gb344, 2, none⟩) (Kd.R_far (p := ⟨gb344, 1, none⟩) (Kd.R_far (p := ⟨gb344, 0, none⟩) (Kd.R_types HO329.out BK344.out (by decide)) (fun _ hk => hk.2) (.slice Ao68 t337.length co68)) (fun _ hk => hk.2) (.bool t340)) (fun _ hk => hk.2) (.int .i64 t341)) (fun _ hk => hk.2) (.string t342)) (fun _ h_ => h_.1))) hb); have n2_ := Aside0.mk (Kd.R_below (by (with_reducible repeat (first | apply Kd.R_alloc | apply Kd.R_drewN | apply Kd.R_drew)); exact (Kd.R_mono (Kd.R_far (p := ⟨gb344, 3, none⟩) (Kd.R_far (p := ⟨gb344, 2, none⟩) (Kd.R_far (p := ⟨gb344, 1, none⟩) (Kd.R_far (p := ⟨gb344, 0, none⟩) (Kd.R_types HO339.out BK344.out (by decide)) (fun _ hk => hk.2) (.slice Ao68 t337.length co68)) (fun _ hk => hk.2) (.bool t340)) (fun _ hk => hk.2) (.int .i64 t341)) (fun _ hk => hk.2) (.string t342)) (fun _ h_ => h_.1))) hb); have n3_ := Aside0.mk (blk_below (g := gb318) (o := .cells #[.int .i64 t315, .string t316] 34 (0, 0)) P_ hb); have n4_ := Aside0.mk (blk_below (g := gb324) (o := .cells #[.int .i64 t321, .string t322] 34 (0, 0)) P_ hb); have n5_ := Aside0.mk (blk_below (g := gb334) (o := .cells #[.slice Ao62 t327.length co62, .bool t330, .int .i64 t331, .string t332] 39 (0, 0)) P_ hb); have n6_ := Aside0.mk (blk_below (g := gb344) (o := .cells #[.slice Ao68 t337.length co68, .bool t340, .int .i64 t341, .string t342] 39 (0, 0)) P_ hb); have n7_ := Aside0.mk (below_step B_ hb); clear HO_7; clear HO329; clear HO339; clear BK318; clear BK324; clear BK334; clear BK344; clear HB; have HO_7 := n0_; have HO329 := n1_; have HO339 := n2_; have BK318 := n3_; have BK324 := n4_; have BK334 := n5_; have BK344 := n6_; have HB := n7_; clear n0_ n1_ n2_ n3_ n4_ n5_ n6_ n7_; (try clear hb); (try clear hb2); (try clear hk); (try clear hi)))
                                          go_roundg kj34
                                          case measure => have := HJ4.out; have := HK2.out; have := HJ22.out; have := HJ34.out; omega
                                          case rel => exact ⟨(wrap64 (x8_2 + 1)), R_, H', ⟨by have := HJ4.out; have := HK2.out; have := HJ22.out; have := HJ34.out; omega⟩, ⟨by (with_reducible repeat (first | apply Kd.R_alloc | apply Kd.R_drewN | apply Kd.R_drew)); exact HO_7.out⟩, ⟨B_⟩⟩
                                        · rw [if_neg c59] at H
                                          have c59b0 : (t333 == t343) = false := beq_eq_false_iff_ne.mpr c59
                                          have c59b1 : (t333 != t343) = true := bne_iff_ne.mpr c59
                                          obtain rfl := Option.some.inj H
                                          exact absurd HT.out (by decide)
                                      · replace c58 := Bool.eq_false_iff.mpr c58
                                        subst c58
                                        have H1 : (some false) = some r := by rw [if_neg (show ¬ (false = true) by decide)] at H; exact H
                                        clear H
                                        have H := H1
                                        clear H1
                                        obtain rfl := Option.some.inj H
                                        exact absurd HT.out (by decide)
                                    · rw [if_neg c56] at H
                                      have c56b0 : (t326.toList == t336.toList) = false := beq_eq_false_iff_ne.mpr c56
                                      have c56b1 : (t326.toList != t336.toList) = true := bne_iff_ne.mpr c56
                                      obtain rfl := Option.some.inj H
                                      exact absurd HT.out (by decide)
                                  · rw [if_neg c55] at H
                                    have c55b0 : (t325.toList == t335.toList) = false := beq_eq_false_iff_ne.mpr c55
                                    have c55b1 : (t325.toList != t335.toList) = true := bne_iff_ne.mpr c55
                                    obtain rfl := Option.some.inj H
                                    exact absurd HT.out (by decide)
                    · rw [if_neg c18] at H
                      have c18b0 : decide (x8_2 < (l0.length : Int)) = false := decide_eq_false c18
                      clear c18
                      replace H := Option.bind_eq_some_iff.mp H
                      obtain ⟨⟨t303, t304⟩, A750, H⟩ := H
                      replace H : (if t304 = 0 then (if t303 = 0 then (some true) else (some (decide (t303 ≥ (l0.length : Int))))) else (some (decide (t303 ≥ (l0.length : Int))))) = some r := H
                      have A75 := Aside0.mk A750
                      clear A750
                      by_cases c76 : t304 = 0
                      · rw [if_pos c76] at H
                        have c76b0 : (t304 == 0) = true := beq_iff_eq.mpr c76
                        have c76b1 : (t304 != 0) = false := bne_eq_false_iff_eq.mpr c76
                        clear c76
                        by_cases c77 : t303 = 0
                        · rw [if_pos c77] at H
                          have c77b0 : (t303 == 0) = true := beq_iff_eq.mpr c77
                          have c77b1 : (t303 != 0) = false := bne_eq_false_iff_eq.mpr c77
                          clear c77
                          obtain rfl := Option.some.inj H
                          obtain ⟨Ao78, co78, eo78⟩ := Kd.R_slice HO_7.out
                          subst eo78
                          go_wp2_with (first | ((with_reducible refine gt_ 15 ?_); refine gc_ 167 Tryd.func15 #[.slice Ao78 y300.length co78] ?_; (with_reducible refine (pool_Check.calls k2 _ _ y300 t303 t304 _ ?side1 ?side2 A75.out).mono ?_); (case side1 => repeat (first | exact (Kd.R_reads' HO_7.out).2.2 | (with_reducible refine Kd.C_alloc ?_ _) | (with_reducible refine Kd.C_drewN ?_ _) | (with_reducible refine Kd.C_drew ?_))); (case side2 => exact (Kd.R_reads' HO_7.out).2.1); rintro e w79 ⟨rfl, hb⟩; refine ⟨_, rfl, ?_⟩; have n0_ := Aside0.mk (Kd.R_below (Q_ HO_7.out) hb); have n1_ := Aside0.mk (below_step B_ hb); clear HO_7; clear HB; have HO_7 := n0_; have HB := n1_; clear n0_ n1_; (try clear hb); (try clear hb2); (try clear hk); (try clear hi)))
                          go_ret
                          exact ⟨E_, B_⟩
                        · rw [if_neg c77] at H
                          have c77b0 : (t303 == 0) = false := beq_eq_false_iff_ne.mpr c77
                          have c77b1 : (t303 != 0) = true := bne_iff_ne.mpr c77
                          obtain rfl := Option.some.inj H
                          obtain ⟨Ao80, co80, eo80⟩ := Kd.R_slice HO_7.out
                          subst eo80
                          go_wp2_with (first | ((with_reducible refine gt_ 15 ?_); refine gc_ 167 Tryd.func15 #[.slice Ao80 y300.length co80] ?_; (with_reducible refine (pool_Check.calls k2 _ _ y300 t303 t304 _ ?side1 ?side2 A75.out).mono ?_); (case side1 => repeat (first | exact (Kd.R_reads' HO_7.out).2.2 | (with_reducible refine Kd.C_alloc ?_ _) | (with_reducible refine Kd.C_drewN ?_ _) | (with_reducible refine Kd.C_drew ?_))); (case side2 => exact (Kd.R_reads' HO_7.out).2.1); rintro e w81 ⟨rfl, hb⟩; refine ⟨_, rfl, ?_⟩; have n0_ := Aside0.mk (Kd.R_below (Q_ HO_7.out) hb); have n1_ := Aside0.mk (below_step B_ hb); clear HO_7; clear HB; have HO_7 := n0_; have HB := n1_; clear n0_ n1_; (try clear hb); (try clear hb2); (try clear hk); (try clear hi)))
                          go_ret
                          exact ⟨E_, B_⟩
                      · rw [if_neg c76] at H
                        have c76b0 : (t304 == 0) = false := beq_eq_false_iff_ne.mpr c76
                        have c76b1 : (t304 != 0) = true := bne_iff_ne.mpr c76
                        obtain rfl := Option.some.inj H
                        obtain ⟨Ao82, co82, eo82⟩ := Kd.R_slice HO_7.out
                        subst eo82
                        go_wp2_with (first | ((with_reducible refine gt_ 15 ?_); refine gc_ 167 Tryd.func15 #[.slice Ao82 y300.length co82] ?_; (with_reducible refine (pool_Check.calls k2 _ _ y300 t303 t304 _ ?side1 ?side2 A75.out).mono ?_); (case side1 => repeat (first | exact (Kd.R_reads' HO_7.out).2.2 | (with_reducible refine Kd.C_alloc ?_ _) | (with_reducible refine Kd.C_drewN ?_ _) | (with_reducible refine Kd.C_drew ?_))); (case side2 => exact (Kd.R_reads' HO_7.out).2.1); rintro e w83 ⟨rfl, hb⟩; refine ⟨_, rfl, ?_⟩; have n0_ := Aside0.mk (Kd.R_below (Q_ HO_7.out) hb); have n1_ := Aside0.mk (below_step B_ hb); clear HO_7; clear HB; have HO_7 := n0_; have HB := n1_; clear n0_ n1_; (try clear hb); (try clear hb2); (try clear hk); (try clear hi)))
                        go_ret
                        exact ⟨E_, B_⟩
              · rw [if_neg c12] at H
                exact absurd H (by simp)
            · rw [if_neg c11] at H
              exact absurd H (by simp)
          · rw [if_neg c10] at H
            have c10b0 : (t293 == 0) = false := beq_eq_false_iff_ne.mpr c10
            have c10b1 : (t293 != 0) = true := bne_iff_ne.mpr c10
            obtain rfl := Option.some.inj H
            go_wp2_with (first | ((with_reducible refine gt_ 15 ?_); refine gc_ 38 Tryd.func15 #[.slice A0 l0.length c0] ?_; (with_reducible refine (pool_Check.calls kj4 _ _ l0 t292 t293 _ ?side1 ?side2 A9.out).mono ?_); (case side1 => exact Y_ (Kd.C_below HR0.out HB.out)); (case side2 => exact HC0.out); rintro e w84 ⟨rfl, hb⟩; refine ⟨_, rfl, ?_⟩; have n0_ := Aside0.mk (below_step B_ hb); clear HB; have HB := n0_; clear n0_; (try clear hb); (try clear hb2); (try clear hk); (try clear hi)))
            go_ret
            exact ⟨E_, B_⟩
  · replace c4 := Bool.eq_false_iff.mpr c4
    subst c4
    have H1 : (some false) = some r := by rw [if_neg (show ¬ (false = true) by decide)] at H; exact H
    clear H
    have H := H1
    clear H1
    obtain rfl := Option.some.inj H
    exact absurd HT.out (by decide)

end Go.Proofs.YtldejfkplnejjaaDoor.P
