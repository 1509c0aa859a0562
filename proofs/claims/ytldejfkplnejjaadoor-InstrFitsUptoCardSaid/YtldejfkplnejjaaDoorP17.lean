-- Written by my program xprint.py (a patched run of the kit's print). Lean checks it.
import Derived.Test.YtldejfkplnejjaaDoorP0
import Derived.Test.YtldejfkplnejjaaDoorP13
import Derived.Test.YtldejfkplnejjaaDoorP14
import Derived.Test.YtldejfkplnejjaaDoorP16
import Derived.Test.YtldejfkplnejjaaDoorExt
import Derived.Test.YtldejfkplnejjaaDoorShort
namespace Go.Proofs.YtldejfkplnejjaaDoor.P
open Go.RowKit Go.Proofs.YtldejfkplnejjaaDoorW.PrintWords Go.Proofs.YtldejfkplnejjaaDoorW.PrintLast Go.Proofs.YtldejfkplnejjaaDoorW.PrintMore
attribute [local go_sem] max2_int min2_int max_two min_two max_three min_three max_four min_four   -- for this text's walks alone
set_option linter.unusedVariables false
set_option linter.unusedSimpArgs false

/-! ### keystonelaw4_InstrFits: function 13 -/
mutual
def keystonelaw4_InstrFits.j0 : Nat → List Int → List (S50) → Int → Bool → Option (Bool)
  | 0, _, _, _, _ => none
  | k + 1, x0, x1, x2, x26 => if x26 = true then (some true) else ((instr_Check.f k x0 x1 x2).bind fun bt489 => (if bt489.2 = 0 then ((instr_All.f k x0).bind fun bt491 => (if bt491.2.2 = 0 then (keystonelaw4_InstrFits.j1 k x0 x2 bt491.1 ((bt491.1.length : Int) == 0)) else (keystonelaw4_InstrFits.j1 k x0 x2 bt491.1 true))) else (some true)))
def keystonelaw4_InstrFits.j1 : Nat → List Int → Int → List (S77) → Bool → Option (Bool)
  | 0, _, _, _, _ => none
  | k + 1, x0, x2, x9, x48 => if x48 = true then (some false) else (if 0 ≤ (wrap64 ((x0.length : Int) + 1)) then (if (wrap64 ((x0.length : Int) + 1) : Int).toNat ≤ 281474976710656 then (keystonelaw4_InstrFits.l0 k x0 x2 x9 (List.replicate (wrap64 ((x0.length : Int) + 1) : Int).toNat false) 0) else (none)) else (none))
def keystonelaw4_InstrFits.l0 : Nat → List Int → Int → List (S77) → List Bool → Int → Option (Bool)
  | 0, _, _, _, _, _ => none
  | k + 1, x0, x2, x9, x12, x13 => if x13 < (x9.length : Int) then (if 0 ≤ x13 then (if 0 ≤ ((rd_T77 x9 x13).f0) then (if ((rd_T77 x9 x13).f0) < (x12.length : Int) then (keystonelaw4_InstrFits.l0 k x0 x2 x9 (x12.set (((rd_T77 x9 x13).f0) : Int).toNat true) (wrap64 (x13 + 1))) else (none)) else (none)) else (none)) else (if 0 ≤ (x0.length : Int) then (if (x0.length : Int) < (x12.length : Int) then (keystonelaw4_InstrFits.l1 k x0 x2 x9 (x12.set ((x0.length : Int) : Int).toNat true) 0) else (none)) else (none))
def keystonelaw4_InstrFits.l1 : Nat → List Int → Int → List (S77) → List Bool → Int → Option (Bool)
  | 0, _, _, _, _, _ => none
  | k + 1, x0, x2, x9, x12, x14 => if x14 < (x9.length : Int) then (if 0 ≤ x14 then ((instr_Next.f k ((rd_T77 x9 x14).f0) ((rd_T77 x9 x14).f1) ((rd_T77 x9 x14).f2) ((rd_T77 x9 x14).f3)).bind fun t503 => (keystonelaw4_InstrFits.l2 k x0 x2 x9 x12 x14 t503 0)) else (none)) else (some true)
def keystonelaw4_InstrFits.l2 : Nat → List Int → Int → List (S77) → List Bool → Int → List Int → Int → Option (Bool)
  | 0, _, _, _, _, _, _, _ => none
  | k + 1, x0, x2, x9, x12, x14, x15, x16 => if x16 < (x15.length : Int) then (if 0 ≤ x16 then (if (rd x15 x16) < 0 then (some false) else (if (rd x15 x16) > (x0.length : Int) then (some false) else (if 0 ≤ (rd x15 x16) then (if (rd x15 x16) < (x12.length : Int) then (if (rdOf false x12 (rd x15 x16) = true) then (keystonelaw4_InstrFits.l2 k x0 x2 x9 x12 x14 x15 (wrap64 (x16 + 1))) else (some false)) else (none)) else (none)))) else (none)) else (if 0 ≤ x14 then (if x14 < (x9.length : Int) then (if ((rd_T77 x9 x14).f1) = 3 then (if ((rd_T77 x9 x14).f2) ≥ x2 then (some false) else (keystonelaw4_InstrFits.l1 k x0 x2 x9 x12 (wrap64 (x14 + 1)))) else (if ((rd_T77 x9 x14).f1) = 4 then (if ((rd_T77 x9 x14).f2) ≥ x2 then (some false) else (keystonelaw4_InstrFits.l1 k x0 x2 x9 x12 (wrap64 (x14 + 1)))) else (keystonelaw4_InstrFits.l1 k x0 x2 x9 x12 (wrap64 (x14 + 1))))) else (none)) else (none))
end
def keystonelaw4_InstrFits.f (k : Nat) (l0 : List Int) (l1 : List (S50)) (a2 : Int) : Option (Bool) := (keystonelaw4_known.f k).bind fun t488 => (if t488 = true then (if (l0.length : Int) > 1100 then (keystonelaw4_InstrFits.j0 k l0 l1 a2 true) else (keystonelaw4_InstrFits.j0 k l0 l1 a2 (decide ((l1.length : Int) > 400)))) else (some false))
theorem keystonelaw4_InstrFits.mono_l : ∀ k, (∀ y0 y1 y2 y3, LeO (keystonelaw4_InstrFits.j0 k y0 y1 y2 y3) (keystonelaw4_InstrFits.j0 (k + 1) y0 y1 y2 y3)) ∧ (∀ y0 y1 y2 y3, LeO (keystonelaw4_InstrFits.j1 k y0 y1 y2 y3) (keystonelaw4_InstrFits.j1 (k + 1) y0 y1 y2 y3)) ∧ (∀ y0 y1 y2 y3 y4, LeO (keystonelaw4_InstrFits.l0 k y0 y1 y2 y3 y4) (keystonelaw4_InstrFits.l0 (k + 1) y0 y1 y2 y3 y4)) ∧ (∀ y0 y1 y2 y3 y4, LeO (keystonelaw4_InstrFits.l1 k y0 y1 y2 y3 y4) (keystonelaw4_InstrFits.l1 (k + 1) y0 y1 y2 y3 y4)) ∧ (∀ y0 y1 y2 y3 y4 y5 y6, LeO (keystonelaw4_InstrFits.l2 k y0 y1 y2 y3 y4 y5 y6) (keystonelaw4_InstrFits.l2 (k + 1) y0 y1 y2 y3 y4 y5 y6))
  | 0 => ⟨fun _ _ _ _ r h => by simp [keystonelaw4_InstrFits.j0] at h, fun _ _ _ _ r h => by simp [keystonelaw4_InstrFits.j1] at h, fun _ _ _ _ _ r h => by simp [keystonelaw4_InstrFits.l0] at h, fun _ _ _ _ _ r h => by simp [keystonelaw4_InstrFits.l1] at h, fun _ _ _ _ _ _ _ r h => by simp [keystonelaw4_InstrFits.l2] at h⟩
  | k + 1 => by
    obtain ⟨ih0, ih1, ih2, ih3, ih4⟩ := keystonelaw4_InstrFits.mono_l k
    refine ⟨?_, ?_, ?_, ?_, ?_⟩
    · intro y0 y1 y2 y3
      unfold keystonelaw4_InstrFits.j0
      repeat' first
      | (with_reducible exact ih0 _ _ _ _)
      | (with_reducible exact ih1 _ _ _ _)
      | (with_reducible exact ih2 _ _ _ _ _)
      | (with_reducible exact ih3 _ _ _ _ _)
      | (with_reducible exact ih4 _ _ _ _ _ _ _)
      | (with_reducible exact instr_All.mono _ _)
      | (with_reducible exact instr_Check.mono _ _ _ _)
      | (with_reducible exact instr_Next.mono _ _ _ _ _)
      | (with_reducible exact keystonelaw4_known.mono _)
      | (with_reducible exact LeO.refl _)
      | (with_reducible exact LeO.none _)
      | (with_reducible refine LeO.ite ?_ ?_)
      | (with_reducible refine LeO.bind ?_ (fun _ => ?_))
      | exact ih0 _ _ _ _
      | exact ih1 _ _ _ _
      | exact ih2 _ _ _ _ _
      | exact ih3 _ _ _ _ _
      | exact ih4 _ _ _ _ _ _ _
      | exact instr_All.mono _ _
      | exact instr_Check.mono _ _ _ _
      | exact instr_Next.mono _ _ _ _ _
      | exact keystonelaw4_known.mono _
      | exact LeO.none _
      | refine LeO.ite ?_ ?_
      | refine LeO.bind ?_ (fun _ => ?_)
    · intro y0 y1 y2 y3
      unfold keystonelaw4_InstrFits.j1
      repeat' first
      | (with_reducible exact ih0 _ _ _ _)
      | (with_reducible exact ih1 _ _ _ _)
      | (with_reducible exact ih2 _ _ _ _ _)
      | (with_reducible exact ih3 _ _ _ _ _)
      | (with_reducible exact ih4 _ _ _ _ _ _ _)
      | (with_reducible exact instr_All.mono _ _)
      | (with_reducible exact instr_Check.mono _ _ _ _)
      | (with_reducible exact instr_Next.mono _ _ _ _ _)
      | (with_reducible exact keystonelaw4_known.mono _)
      | (with_reducible exact LeO.refl _)
      | (with_reducible exact LeO.none _)
      | (with_reducible refine LeO.ite ?_ ?_)
      | (with_reducible refine LeO.bind ?_ (fun _ => ?_))
      | exact ih0 _ _ _ _
      | exact ih1 _ _ _ _
      | exact ih2 _ _ _ _ _
      | exact ih3 _ _ _ _ _
      | exact ih4 _ _ _ _ _ _ _
      | exact instr_All.mono _ _
      | exact instr_Check.mono _ _ _ _
      | exact instr_Next.mono _ _ _ _ _
      | exact keystonelaw4_known.mono _
      | exact LeO.none _
      | refine LeO.ite ?_ ?_
      | refine LeO.bind ?_ (fun _ => ?_)
    · intro y0 y1 y2 y3 y4
      unfold keystonelaw4_InstrFits.l0
      repeat' first
      | (with_reducible exact ih0 _ _ _ _)
      | (with_reducible exact ih1 _ _ _ _)
      | (with_reducible exact ih2 _ _ _ _ _)
      | (with_reducible exact ih3 _ _ _ _ _)
      | (with_reducible exact ih4 _ _ _ _ _ _ _)
      | (with_reducible exact instr_All.mono _ _)
      | (with_reducible exact instr_Check.mono _ _ _ _)
      | (with_reducible exact instr_Next.mono _ _ _ _ _)
      | (with_reducible exact keystonelaw4_known.mono _)
      | (with_reducible exact LeO.refl _)
      | (with_reducible exact LeO.none _)
      | (with_reducible refine LeO.ite ?_ ?_)
      | (with_reducible refine LeO.bind ?_ (fun _ => ?_))
      | exact ih0 _ _ _ _
      | exact ih1 _ _ _ _
      | exact ih2 _ _ _ _ _
      | exact ih3 _ _ _ _ _
      | exact ih4 _ _ _ _ _ _ _
      | exact instr_All.mono _ _
      | exact instr_Check.mono _ _ _ _
      | exact instr_Next.mono _ _ _ _ _
      | exact keystonelaw4_known.mono _
      | exact LeO.none _
      | refine LeO.ite ?_ ?_
      | refine LeO.bind ?_ (fun _ => ?_)
    · intro y0 y1 y2 y3 y4
      unfold keystonelaw4_InstrFits.l1
      repeat' first
      | (with_reducible exact ih0 _ _ _ _)
      | (with_reducible exact ih1 _ _ _ _)
      | (with_reducible exact ih2 _ _ _ _ _)
      | (with_reducible exact ih3 _ _ _ _ _)
      | (with_reducible exact ih4 _ _ _ _ _ _ _)
      | (with_reducible exact instr_All.mono _ _)
      | (with_reducible exact instr_Check.mono _ _ _ _)
      | (with_reducible exact instr_Next.mono _ _ _ _ _)
      | (with_reducible exact keystonelaw4_known.mono _)
      | (with_reducible exact LeO.refl _)
      | (with_reducible exact LeO.none _)
      | (with_reducible refine LeO.ite ?_ ?_)
      | (with_reducible refine LeO.bind ?_ (fun _ => ?_))
      | exact ih0 _ _ _ _
      | exact ih1 _ _ _ _
      | exact ih2 _ _ _ _ _
      | exact ih3 _ _ _ _ _
      | exact ih4 _ _ _ _ _ _ _
      | exact instr_All.mono _ _
      | exact instr_Check.mono _ _ _ _
      | exact instr_Next.mono _ _ _ _ _
      | exact keystonelaw4_known.mono _
      | exact LeO.none _
      | refine LeO.ite ?_ ?_
      | refine LeO.bind ?_ (fun _ => ?_)
    · intro y0 y1 y2 y3 y4 y5 y6
      unfold keystonelaw4_InstrFits.l2
      repeat' first
      | (with_reducible exact ih0 _ _ _ _)
      | (with_reducible exact ih1 _ _ _ _)
      | (with_reducible exact ih2 _ _ _ _ _)
      | (with_reducible exact ih3 _ _ _ _ _)
      | (with_reducible exact ih4 _ _ _ _ _ _ _)
      | (with_reducible exact instr_All.mono _ _)
      | (with_reducible exact instr_Check.mono _ _ _ _)
      | (with_reducible exact instr_Next.mono _ _ _ _ _)
      | (with_reducible exact keystonelaw4_known.mono _)
      | (with_reducible exact LeO.refl _)
      | (with_reducible exact LeO.none _)
      | (with_reducible refine LeO.ite ?_ ?_)
      | (with_reducible refine LeO.bind ?_ (fun _ => ?_))
      | exact ih0 _ _ _ _
      | exact ih1 _ _ _ _
      | exact ih2 _ _ _ _ _
      | exact ih3 _ _ _ _ _
      | exact ih4 _ _ _ _ _ _ _
      | exact instr_All.mono _ _
      | exact instr_Check.mono _ _ _ _
      | exact instr_Next.mono _ _ _ _ _
      | exact keystonelaw4_known.mono _
      | exact LeO.none _
      | refine LeO.ite ?_ ?_
      | refine LeO.bind ?_ (fun _ => ?_)
theorem keystonelaw4_InstrFits.mono : ∀ a0 a1 a2 k, LeO (keystonelaw4_InstrFits.f k a0 a1 a2) (keystonelaw4_InstrFits.f (k + 1) a0 a1 a2) := by
  intro a0 a1 a2 k
  obtain ⟨ih0, ih1, ih2, ih3, ih4⟩ := keystonelaw4_InstrFits.mono_l k
  unfold keystonelaw4_InstrFits.f
  repeat' first
      | (with_reducible exact ih0 _ _ _ _)
      | (with_reducible exact ih1 _ _ _ _)
      | (with_reducible exact ih2 _ _ _ _ _)
      | (with_reducible exact ih3 _ _ _ _ _)
      | (with_reducible exact ih4 _ _ _ _ _ _ _)
      | (with_reducible exact instr_All.mono _ _)
      | (with_reducible exact instr_Check.mono _ _ _ _)
      | (with_reducible exact instr_Next.mono _ _ _ _ _)
      | (with_reducible exact keystonelaw4_known.mono _)
      | (with_reducible exact LeO.refl _)
      | (with_reducible exact LeO.none _)
      | (with_reducible refine LeO.ite ?_ ?_)
      | (with_reducible refine LeO.bind ?_ (fun _ => ?_))
      | exact ih0 _ _ _ _
      | exact ih1 _ _ _ _
      | exact ih2 _ _ _ _ _
      | exact ih3 _ _ _ _ _
      | exact ih4 _ _ _ _ _ _ _
      | exact instr_All.mono _ _
      | exact instr_Check.mono _ _ _ _
      | exact instr_Next.mono _ _ _ _ _
      | exact keystonelaw4_known.mono _
      | exact LeO.none _
      | refine LeO.ite ?_ ?_
      | refine LeO.bind ?_ (fun _ => ?_)
set_option maxHeartbeats 8000000 in
set_option maxRecDepth 100000 in
theorem keystonelaw4_InstrFits.calls (k : Nat) (A0 : Option Addr) (c0 : Nat) (l0 : List Int) (A1 : Option Addr) (c1 : Nat) (l1 : List (S50)) (a2 : Int) (r : Bool) (w : World) (hr0 : Kd.C (Kd.int .u8) w A0 l0.length l0) (hc0 : l0.length ≤ c0) (hr1 : Kd.C k50 w A1 l1.length l1) (hc1 : l1.length ≤ c1) (hG : Glob w) (hT : r = true) (h : keystonelaw4_InstrFits.f k l0 l1 a2 = some r) :
    Calls Tryd.prog 13 #[.slice A0 l0.length c0, .slice A1 l1.length c1, .int .i64 a2] w fun e w' => e = .returned (.bool r) ∧ Below w.heap.size w w' := by
  have hu77 := Tryd.underlying77
  have HR0 := Aside0.mk hr0
  have HC0 := Aside0.mk hc0
  clear hr0 hc0
  have HR1 := Aside0.mk hr1
  have HC1 := Aside0.mk hc1
  clear hr1 hc1
  have HB := Aside0.mk (Below.refl w.heap.size w)
  have H : ((keystonelaw4_known.f k).bind fun t488 => (if t488 = true then (if (l0.length : Int) > 1100 then (keystonelaw4_InstrFits.j0 k l0 l1 a2 true) else (keystonelaw4_InstrFits.j0 k l0 l1 a2 (decide ((l1.length : Int) > 400)))) else (some false))) = some r := h
  clear h
  have HG := Aside0.mk hG
  clear hG
  have HT := Aside0.mk hT
  clear hT
  replace H := Option.bind_eq_some_iff.mp H
  obtain ⟨t488, A40, H⟩ := H
  replace H : (if t488 = true then (if (l0.length : Int) > 1100 then (keystonelaw4_InstrFits.j0 k l0 l1 a2 true) else (keystonelaw4_InstrFits.j0 k l0 l1 a2 (decide ((l1.length : Int) > 400)))) else (some false)) = some r := H
  have A4 := Aside0.mk A40
  clear A40
  by_cases c5 : t488 = true
  · subst c5
    have H1 : (if (l0.length : Int) > 1100 then (keystonelaw4_InstrFits.j0 k l0 l1 a2 true) else (keystonelaw4_InstrFits.j0 k l0 l1 a2 (decide ((l1.length : Int) > 400)))) = some r := by rw [if_pos rfl] at H; exact H
    clear H
    have H := H1
    clear H1
    have HC6 := Aside0.mk H
    clear H
    go_enter Tryd.func13, Tryd.ntmps13
    go_upto_region 3 with (first | ((with_reducible refine gate_callee (f := 32) rfl ?_); refine goesL_ (some 17) rfl rfl Tryd.func32 (by kernel_rfl) rfl #[] rfl (by (try simp only [List.map_toArray, List.map_cons, List.map_nil]); first | done | rfl | (simp only [List.length_drop, List.length_take]; rfl)) ?_; (with_reducible refine (keystonelaw4_known.calls k  true _ ?side1 A4.out).mono ?_); (case side1 => exact HG.out.below B_); rintro e w7 ⟨rfl, hb⟩; refine ⟨_, rfl, ?_⟩; have n0_ := Aside0.mk (below_step B_ hb); clear HB; have HB := n0_; clear n0_; (try clear hb); (try clear hb2); (try clear hk); (try clear hi)))
    (try simp only [Act.put, List.setIfInBounds_toArray, List.set_cons_zero, List.set_cons_succ])
    go_cut [26] (fun v26 wc => ∃ (kq : Nat) (x26_5 : Bool), v26 = .bool x26_5 ∧ Aside0 (keystonelaw4_InstrFits.j0 kq l0 l1 a2 x26_5 = some r) ∧ Aside0 (kq ≤ k) ∧ Aside0 (Below w.heap.size w wc))
    case first =>
      have H := HC6.out
      clear HC6
      by_cases c8 : (l0.length : Int) > 1100
      · rw [if_pos c8] at H
        have c8b0 : decide (1100 < (l0.length : Int)) = true := decide_eq_true c8
        have c8b1 : decide (1100 < l0.length) = true := decide_eq_true (by omega)
        clear c8
        (first | rw [c8b0] | (simp only [i64_w, i32_w]; rw [c8b0]) | skip)
        have H' := Aside0.mk H
        clear H
        go_wp2
        go_meet
        case rel => exact ⟨_, (true), R_, H', ⟨by first | omega | exact Nat.le_refl _⟩, ⟨B_⟩⟩
      · rw [if_neg c8] at H
        have c8b0 : decide (1100 < (l0.length : Int)) = false := decide_eq_false c8
        have c8b1 : decide (1100 < l0.length) = false := decide_eq_false (by omega)
        clear c8
        (first | rw [c8b0] | (simp only [i64_w, i32_w]; rw [c8b0]) | skip)
        have H' := Aside0.mk H
        clear H
        go_wp2
        go_meet
        case rel => exact ⟨_, (decide ((l1.length : Int) > 400)), R_, H', ⟨by first | omega | exact Nat.le_refl _⟩, ⟨B_⟩⟩
    case rest =>
      clear HC6
      try clear c1
      try clear p2
      try clear c3
      try clear c5
      try clear c8
      try clear c8b0
      try clear c8b1
      obtain ⟨kq, x26_5, rfl, HA, HJ5, HB⟩ := hcut
      cases kq with
      | zero => exact absurd HA.out (by simp [keystonelaw4_InstrFits.j0])
      | succ kj5 =>
        have H := HA.out
        clear HA
        simp only [keystonelaw4_InstrFits.j0] at H
        by_cases c9 : x26_5 = true
        · subst c9
          have H1 : (some true) = some r := by rw [if_pos rfl] at H; exact H
          clear H
          have H := H1
          clear H1
          obtain rfl := Option.some.inj H
          go_wp2
          go_ret
          exact ⟨by first | rfl | (simp [errW_none, errW_some] <;> rfl) | (simp [*, errW_none, errW_some] <;> rfl), B_⟩
        · replace c9 := Bool.eq_false_iff.mpr c9
          subst c9
          have H1 : ((instr_Check.f kj5 l0 l1 a2).bind fun bt489 => (if bt489.2 = 0 then ((instr_All.f kj5 l0).bind fun bt491 => (if bt491.2.2 = 0 then (keystonelaw4_InstrFits.j1 kj5 l0 a2 bt491.1 ((bt491.1.length : Int) == 0)) else (keystonelaw4_InstrFits.j1 kj5 l0 a2 bt491.1 true))) else (some true))) = some r := by rw [if_neg (show ¬ (false = true) by decide)] at H; exact H
          clear H
          have H := H1
          clear H1
          replace H := Option.bind_eq_some_iff.mp H
          obtain ⟨⟨t489, t490⟩, A100, H⟩ := H
          replace H : (if t490 = 0 then ((instr_All.f kj5 l0).bind fun bt491 => (if bt491.2.2 = 0 then (keystonelaw4_InstrFits.j1 kj5 l0 a2 bt491.1 ((bt491.1.length : Int) == 0)) else (keystonelaw4_InstrFits.j1 kj5 l0 a2 bt491.1 true))) else (some true)) = some r := H
          have A10 := Aside0.mk A100
          clear A100
          by_cases c11 : t490 = 0
          · rw [if_pos c11] at H
            have c11b0 : (t490 == 0) = true := beq_iff_eq.mpr c11
            have c11b1 : (t490 != 0) = false := bne_eq_false_iff_eq.mpr c11
            clear c11
            replace H := Option.bind_eq_some_iff.mp H
            obtain ⟨⟨t491, t492, t493⟩, A120, H⟩ := H
            replace H : (if t493 = 0 then (keystonelaw4_InstrFits.j1 kj5 l0 a2 t491 ((t491.length : Int) == 0)) else (keystonelaw4_InstrFits.j1 kj5 l0 a2 t491 true)) = some r := H
            have A12 := Aside0.mk A120
            clear A120
            have HC13 := Aside0.mk H
            clear H
            go_upto_region 9 with (first | ((with_reducible refine gate_callee (f := 33) rfl ?_); refine goesL_ (some 31) rfl rfl Tryd.func33 (by kernel_rfl) rfl #[.slice A0 l0.length c0, .slice A1 l1.length c1, .int .i64 a2] rfl (by (try simp only [List.map_toArray, List.map_cons, List.map_nil]); first | done | rfl | (simp only [List.length_drop, List.length_take]; rfl)) ?_; (with_reducible refine (instr_Check.calls kj5 _ _ l0 _ _ l1 a2 t489 t490 _ ?side1 ?side2 ?side3 ?side4 A10.out).mono ?_); (case side1 => repeat (first | exact (Kd.C_below HR0.out HB.out) | (with_reducible refine Kd.C_alloc ?_ _) | (with_reducible refine Kd.C_drewN ?_ _) | (with_reducible refine Kd.C_drew ?_))); (case side2 => exact HC0.out); (case side3 => repeat (first | exact (Kd.C_below HR1.out HB.out) | (with_reducible refine Kd.C_alloc ?_ _) | (with_reducible refine Kd.C_drewN ?_ _) | (with_reducible refine Kd.C_drew ?_))); (case side4 => exact HC1.out); rintro e w14 ⟨rfl, hb⟩; refine ⟨_, rfl, ?_⟩; have n0_ := Aside0.mk (below_step B_ hb); clear HB; have HB := n0_; clear n0_; (try clear hb); (try clear hb2); (try clear hk); (try clear hi)) | ((with_reducible refine gate_callee (f := 35) rfl ?_); refine goesL_ (some 38) rfl rfl Tryd.func35 (by kernel_rfl) rfl #[.slice A0 l0.length c0] rfl (by (try simp only [List.map_toArray, List.map_cons, List.map_nil]); first | done | rfl | (simp only [List.length_drop, List.length_take]; rfl)) ?_; (with_reducible refine (instr_All.calls kj5 _ _ l0 t491 t492 t493 _ ?side1 ?side2 A12.out).mono ?_); (case side1 => repeat (first | exact (Kd.C_below HR0.out HB.out) | (with_reducible refine Kd.C_alloc ?_ _) | (with_reducible refine Kd.C_drewN ?_ _) | (with_reducible refine Kd.C_drew ?_))); (case side2 => exact HC0.out); rintro e w15 ⟨v494, rfl, ho0, hb⟩; refine ⟨_, rfl, ?_⟩; have n0_ := Aside0.mk (Kd.R_lower ho0 (below_size B_)); have n1_ := Aside0.mk (below_step B_ hb); clear HB; have HO495 := n0_; have HB := n1_; clear n0_ n1_; (try clear hb); (try clear hb2); (try clear hk); (try clear hi); (try clear ho0)))
            (try simp only [Act.put, List.setIfInBounds_toArray, List.set_cons_zero, List.set_cons_succ])
            go_cut [48] (fun v48 wc => ∃ (kq : Nat) (x48_12 : Bool), v48 = .bool x48_12 ∧ Aside0 (keystonelaw4_InstrFits.j1 kq l0 a2 t491 x48_12 = some r) ∧ Aside0 (kq ≤ kj5) ∧ Aside0 (Kd.R k77 77 wc w.heap.size (fun _ => True) v494 t491) ∧ Aside0 (Below w.heap.size w wc))
            case first =>
              have H := HC13.out
              clear HC13
              by_cases c16 : t493 = 0
              · rw [if_pos c16] at H
                have c16b0 : (t493 == 0) = true := beq_iff_eq.mpr c16
                have c16b1 : (t493 != 0) = false := bne_eq_false_iff_eq.mpr c16
                clear c16
                (first | rw [c16b0] | (simp only [i64_w, i32_w]; rw [c16b0]) | skip)
                have H' := Aside0.mk H
                clear H
                obtain ⟨Ao17, co17, eo17⟩ := Kd.R_slice HO495.out
                subst eo17
                go_wp2
                go_meet
                case rel => exact ⟨_, (((t491.length : Int) == 0)), R_, H', ⟨by have := HJ5.out; first | omega | exact Nat.le_refl _⟩, ⟨by (with_reducible repeat (first | apply Kd.R_alloc | apply Kd.R_drewN | apply Kd.R_drew)); exact HO495.out⟩, ⟨B_⟩⟩
              · rw [if_neg c16] at H
                have c16b0 : (t493 == 0) = false := beq_eq_false_iff_ne.mpr c16
                have c16b1 : (t493 != 0) = true := bne_iff_ne.mpr c16
                (first | rw [c16b0] | (simp only [i64_w, i32_w]; rw [c16b0]) | skip)
                have H' := Aside0.mk H
                clear H
                go_wp2
                go_meet
                case rel => exact ⟨_, (true), R_, H', ⟨by have := HJ5.out; first | omega | exact Nat.le_refl _⟩, ⟨by (with_reducible repeat (first | apply Kd.R_alloc | apply Kd.R_drewN | apply Kd.R_drew)); exact HO495.out⟩, ⟨B_⟩⟩
            case rest =>
              clear HC13
              try clear c1
              try clear p2
              try clear c3
              try clear c5
              try clear c8
              try clear c8b0
              try clear c8b1
              try clear c9
              try clear c11
              try clear c11b0
              try clear c11b1
              try clear c13
              try clear c16
              try clear c16b0
              try clear c16b1
              try clear p2
              obtain ⟨kq, x48_12, rfl, HA, HJ12, HO_9, HB⟩ := hcut
              cases kq with
              | zero => exact absurd HA.out (by simp [keystonelaw4_InstrFits.j1])
              | succ kj12 =>
                have H := HA.out
                clear HA
                simp only [keystonelaw4_InstrFits.j1] at H
                by_cases c18 : x48_12 = true
                · subst c18
                  have H1 : (some false) = some r := by rw [if_pos rfl] at H; exact H
                  clear H
                  have H := H1
                  clear H1
                  obtain rfl := Option.some.inj H
                  exact absurd HT.out (by decide)
                · replace c18 := Bool.eq_false_iff.mpr c18
                  subst c18
                  have H1 : (if 0 ≤ (wrap64 ((l0.length : Int) + 1)) then (if (wrap64 ((l0.length : Int) + 1) : Int).toNat ≤ 281474976710656 then (keystonelaw4_InstrFits.l0 kj12 l0 a2 t491 (List.replicate (wrap64 ((l0.length : Int) + 1) : Int).toNat false) 0) else (none)) else (none)) = some r := by rw [if_neg (show ¬ (false = true) by decide)] at H; exact H
                  clear H
                  have H := H1
                  clear H1
                  obtain ⟨ji19, hji19⟩ : ∃ j_ : Int, (wrap64 ((l0.length : Int) + 1)) = j_ := ⟨_, rfl⟩
                  replace H : (if 0 ≤ (ji19) then (if (ji19 : Int).toNat ≤ 281474976710656 then (keystonelaw4_InstrFits.l0 kj12 l0 a2 t491 (List.replicate (ji19 : Int).toNat false) 0) else (none)) else (none)) = some r := by first | (rw [hji19] at H; exact H) | (simp only [hji19] at H ⊢; exact H)
                  have hji19w : (IntKind.i64.wrap ((l0.length : Int) + 1)) = ji19 := (i64_w _).trans hji19
                  by_cases c20 : 0 ≤ (ji19)
                  · rw [if_pos c20] at H
                    have c20b0 := eq_true c20
                    have c20b1 : decide (0 ≤ (ji19)) = true := decide_eq_true c20
                    clear c20
                    by_cases c21 : (ji19 : Int).toNat ≤ 281474976710656
                    · rw [if_pos c21] at H
                      have c21b0 := eq_true c21
                      have c21b1 : decide ((ji19 : Int).toNat ≤ 281474976710656) = true := decide_eq_true c21
                      clear c21
                      obtain ⟨y496, hy496⟩ : ∃ y_ : List Bool, y_ = (List.replicate (ji19 : Int).toNat false) := ⟨_, rfl⟩
                      replace H : (keystonelaw4_InstrFits.l0 kj12 l0 a2 t491 y496 0) = some r := by first | (rw [hy496]; with_reducible exact H) | (have H2_ := (Option.bind_some _ _).symm.trans H; rw [hy496]; with_reducible exact H2_) | (have H2_ := (Option.bind_some _ _).symm.trans H; with_reducible exact H2_) | with_reducible exact H | (rw [hy496]; exact H) | exact H
                      have Ny496 := Aside0.mk hy496
                      clear hy496
                      have H' := Aside0.mk H
                      clear H
                      go_wp2_with (first | ((with_reducible refine gate_dst (N := 52) rfl ?_); (try (refine gate_guard (by rfl) ?_; dsimp only)); refine Kd.R_make Kd.bool _ 4 rfl (N := 52) rfl 78 _ _ rfl ji19 rfl rfl Tryd.underlying78 (.bool false) 1 info4 rfl (by decide) (by omega) false (ok := fun _ => True) (okp := fun _ => True) rfl (fun _ hk => hk) trivial (of_decide_eq_true (by first | (with_reducible assumption) | assumption)) (Nat.le_trans (Nat.mul_le_mul_right _ (of_decide_eq_true (by first | (with_reducible assumption) | assumption) : ji19.toNat ≤ 281474976710656)) (by omega)) (Below.refl _ _) (Nat.le_refl _) ?_; intro v497 w22 ho23 hb hg_ hnew_; clear hg_ hnew_; (first | rw [← Ny496.out] at ho23 | (simp only [Int.reduceToNat] at ho23; rw [← Ny496.out] at ho23)); have n0_ := Aside0.mk (Kd.R_below (by (with_reducible repeat (first | apply Kd.R_alloc | apply Kd.R_drewN | apply Kd.R_drew)); exact HO_9.out) hb); have n1_ := Aside0.mk (Kd.R_lower ho23 (below_size B_)); have n2_ := Aside0.mk (below_step B_ hb); clear HO_9; clear HB; have HO_9 := n0_; have HO498 := n1_; have HB := n2_; clear n0_ n1_ n2_; clear hb ho23))
                      go_loopg [13] kj12 (fun kq v13 w' => ∃ (x12_3 : List Bool) (x13_3 : Int), v13 = .int .i64 x13_3 ∧ Aside0 (keystonelaw4_InstrFits.l0 kq l0 a2 t491 x12_3 x13_3 = some r) ∧ Aside0 (kq ≤ kj12) ∧ Aside0 (Kd.R k77 77 w' w.heap.size (fun _ => True) v494 t491) ∧ Aside0 (Kd.R Kd.bool 4 w' w.heap.size (fun _ => True) v497 x12_3) ∧ Aside0 (Below w.heap.size w w'))
                      case atStart => exact ⟨(y496), (0), R_, H', ⟨Nat.le_refl _⟩, ⟨by (with_reducible repeat (first | apply Kd.R_alloc | apply Kd.R_drewN | apply Kd.R_drew)); exact HO_9.out⟩, ⟨by (with_reducible repeat (first | apply Kd.R_alloc | apply Kd.R_drewN | apply Kd.R_drew)); exact HO498.out⟩, ⟨B_⟩⟩
                      case round =>
                        clear H'
                        try clear c1
                        try clear c2
                        try clear p2
                        try clear c3
                        try clear c5
                        try clear p6
                        try clear c8
                        try clear c8b0
                        try clear c8b1
                        try clear c9
                        try clear c11
                        try clear c11b0
                        try clear c11b1
                        try clear c13
                        try clear c16
                        try clear c16b0
                        try clear c16b1
                        try clear c18
                        try clear c20
                        try clear c20b0
                        try clear c20b1
                        try clear c21
                        try clear c21b0
                        try clear c21b1
                        try clear p2
                        obtain ⟨x12_3, x13_3, rfl, HA, HK3, HO_9, HO_12, HB⟩ := hrel
                        cases gk with
                        | zero => exact absurd HA.out (by simp [keystonelaw4_InstrFits.l0])
                        | succ k3 =>
                          have H := HA.out
                          clear HA
                          simp only [keystonelaw4_InstrFits.l0] at H
                          by_cases c24 : x13_3 < (t491.length : Int)
                          · rw [if_pos c24] at H
                            have c24b0 : decide (x13_3 < (t491.length : Int)) = true := decide_eq_true c24
                            clear c24
                            by_cases c25 : 0 ≤ x13_3
                            · rw [if_pos c25] at H
                              have c25b0 : decide (0 ≤ x13_3) = true := decide_eq_true c25
                              clear c25
                              by_cases c26 : 0 ≤ ((rd_T77 t491 x13_3).f0)
                              · rw [if_pos c26] at H
                                have c26b0 : decide (0 ≤ ((rd_T77 t491 x13_3).f0)) = true := decide_eq_true c26
                                clear c26
                                by_cases c27 : ((rd_T77 t491 x13_3).f0) < (x12_3.length : Int)
                                · rw [if_pos c27] at H
                                  have c27b0 : decide (((rd_T77 t491 x13_3).f0) < (x12_3.length : Int)) = true := decide_eq_true c27
                                  clear c27
                                  obtain ⟨y500, hy500⟩ : ∃ y_ : List Bool, y_ = (x12_3.set (((rd_T77 t491 x13_3).f0) : Int).toNat true) := ⟨_, rfl⟩
                                  replace H : (keystonelaw4_InstrFits.l0 k3 l0 a2 t491 y500 (wrap64 (x13_3 + 1))) = some r := by first | (rw [hy500]; with_reducible exact H) | (have H2_ := (Option.bind_some _ _).symm.trans H; rw [hy500]; with_reducible exact H2_) | (have H2_ := (Option.bind_some _ _).symm.trans H; with_reducible exact H2_) | with_reducible exact H | (rw [hy500]; exact H) | exact H
                                  have Ny500 := Aside0.mk hy500
                                  clear hy500
                                  have H' := Aside0.mk H
                                  clear H
                                  obtain ⟨Ao29, co29, eo29⟩ := Kd.R_slice HO_9.out
                                  subst eo29
                                  have p499 : 0 ≤ (x13_3 : Int) := of_decide_eq_true (by first | (with_reducible assumption) | assumption)
                                  have q499 : x13_3 < (t491.length : Int) := of_decide_eq_true (by first | (with_reducible assumption) | assumption)
                                  obtain ⟨ad499, e499, hx499_0, hx499_1, hx499_2, hx499_3⟩ := at_T77 (Kd.R_reads' HO_9.out).2.2 x13_3 p499 q499
                                  cases e499
                                  replace p499 := eq_true p499
                                  replace q499 := eq_true q499
                                  have p28 : 0 ≤ (((rd_T77 t491 x13_3).f0) : Int) := of_decide_eq_true (by first | (with_reducible assumption) | assumption)
                                  have q28 : (((rd_T77 t491 x13_3).f0) : Int) < ((x12_3.length : Int) : Int) := of_decide_eq_true (by first | (with_reducible assumption) | assumption)
                                  obtain ⟨go28, co28, eo28, gb28, gl28, cl28, HG28⟩ := Kd.R_form HO_12.out (by omega)
                                  (first | cases eo28 | (injection eo28 with ea_ en_ ec_; (first | subst ea_ | (injection ea_ with ea_; subst ea_)); subst ec_; clear en_))
                                  have GB28 := Aside0.mk gb28
                                  have GG28 := Aside0.mk HG28
                                  clear gb28 gl28 HG28
                                  obtain ⟨hx28_0, hf28_0⟩ := Kd.R_celln false HO_12.out (((rd_T77 t491 x13_3).f0) : Int) p28 q28
                                  replace p28 := eq_true p28
                                  replace q28 := eq_true q28
                                  have HP30 := Kd.R_putg HO_12.out (((rd_T77 t491 x13_3).f0) : Int) true
                                  go_wp2_with (first | ((with_reducible refine gate_store (t := 4) (p := 65) rfl ?_); refine store_event (t := 4) (p := 65) (v := ?vo_w31) (w1 := (wr.setCell ⟨go28, (((rd_T77 t491 x13_3).f0) : Int).toNat, none⟩ (.bool true))) ?hg ?ho ?hn ?hr ?_; (case ho => rfl); (case hg => rfl); (case hn => rfl); (case hr => first | (go_simp; done) | (go_simp; rfl)); intro w31 hw; have hg : wr.grownBy w31 (some go28) := (by rw [hw]; exact HP30.2); have hp_ : Kd.R Kd.bool 4 w31 w.heap.size (fun _ => True) (.slice (some ⟨go28, 0, none⟩) x12_3.length co28) y500 := (by rw [hw, Ny500.out]; exact HP30.1); clear HP30; have n0_ := Aside0.mk (Kd.R_over' (v := (.slice (some ⟨go28, 0, none⟩) x12_3.length co28)) (by (with_reducible repeat (first | apply Kd.R_alloc | apply Kd.R_drewN | apply Kd.R_drew)); exact HO_9.out) (Kd.R_typed HO_12.out) (by decide) hg); have n1_ := Aside0.mk (hp_); have n2_ := Aside0.mk ((by rw [hw]; exact below_set (HB.out) GB28.out : Below w.heap.size w w31)); clear HO_9; clear HO_12; clear HB; have HO_9 := n0_; have HO_12 := n1_; have HB := n2_; clear n0_ n1_ n2_; clear hg hw hp_))
                                  go_roundg k3
                                  case measure => have := HJ5.out; have := HJ12.out; have := HK3.out; omega
                                  case rel => exact ⟨(y500), (wrap64 (x13_3 + 1)), R_, H', ⟨by have := HJ5.out; have := HJ12.out; have := HK3.out; omega⟩, ⟨by (with_reducible repeat (first | apply Kd.R_alloc | apply Kd.R_drewN | apply Kd.R_drew)); exact HO_9.out⟩, ⟨by (with_reducible repeat (first | apply Kd.R_alloc | apply Kd.R_drewN | apply Kd.R_drew)); exact HO_12.out⟩, ⟨B_⟩⟩
                                · rw [if_neg c27] at H
                                  exact absurd H (by simp)
                              · rw [if_neg c26] at H
                                exact absurd H (by simp)
                            · rw [if_neg c25] at H
                              exact absurd H (by simp)
                          · rw [if_neg c24] at H
                            have c24b0 : decide (x13_3 < (t491.length : Int)) = false := decide_eq_false c24
                            clear c24
                            by_cases c32 : 0 ≤ (l0.length : Int)
                            · rw [if_pos c32] at H
                              have c32b0 : decide (0 ≤ (l0.length : Int)) = true := decide_eq_true c32
                              have c32b1 : decide (0 ≤ l0.length) = true := decide_eq_true (by omega)
                              clear c32
                              by_cases c33 : (l0.length : Int) < (x12_3.length : Int)
                              · rw [if_pos c33] at H
                                have c33b0 : decide ((l0.length : Int) < (x12_3.length : Int)) = true := decide_eq_true c33
                                have c33b1 : decide (l0.length < x12_3.length) = true := decide_eq_true (Int.ofNat_lt.mp c33)
                                clear c33
                                obtain ⟨y501, hy501⟩ : ∃ y_ : List Bool, y_ = (x12_3.set ((l0.length : Int) : Int).toNat true) := ⟨_, rfl⟩
                                replace H : (keystonelaw4_InstrFits.l1 k3 l0 a2 t491 y501 0) = some r := by first | (rw [hy501]; with_reducible exact H) | (have H2_ := (Option.bind_some _ _).symm.trans H; rw [hy501]; with_reducible exact H2_) | (have H2_ := (Option.bind_some _ _).symm.trans H; with_reducible exact H2_) | with_reducible exact H | (rw [hy501]; exact H) | exact H
                                have Ny501 := Aside0.mk hy501
                                clear hy501
                                have H' := Aside0.mk H
                                clear H
                                obtain ⟨Ao35, co35, eo35⟩ := Kd.R_slice HO_9.out
                                subst eo35
                                have p34 : 0 ≤ ((l0.length : Int) : Int) := of_decide_eq_true (by first | (with_reducible assumption) | assumption)
                                have q34 : ((l0.length : Int) : Int) < ((x12_3.length : Int) : Int) := of_decide_eq_true (by first | (with_reducible assumption) | assumption)
                                obtain ⟨go34, co34, eo34, gb34, gl34, cl34, HG34⟩ := Kd.R_form HO_12.out (by omega)
                                (first | cases eo34 | (injection eo34 with ea_ en_ ec_; (first | subst ea_ | (injection ea_ with ea_; subst ea_)); subst ec_; clear en_))
                                have GB34 := Aside0.mk gb34
                                have GG34 := Aside0.mk HG34
                                clear gb34 gl34 HG34
                                obtain ⟨hx34_0, hf34_0⟩ := Kd.R_celln false HO_12.out ((l0.length : Int) : Int) p34 q34
                                have hx34_0n := hx34_0
                                have hf34_0n := hf34_0
                                simp only [Int.toNat_natCast] at hx34_0n hf34_0n
                                replace p34 := eq_true p34
                                replace q34 := eq_true q34
                                have HP36 := Kd.R_putg HO_12.out ((l0.length : Int) : Int) true
                                go_wp2_with (first | ((with_reducible refine gate_store (t := 4) (p := 69) rfl ?_); refine store_event (t := 4) (p := 69) (v := ?vo_w37) (w1 := (wr.setCell ⟨go34, ((l0.length : Int) : Int).toNat, none⟩ (.bool true))) ?hg ?ho ?hn ?hr ?_; (case ho => rfl); (case hg => rfl); (case hn => rfl); (case hr => first | (go_simp; done) | (go_simp; rfl)); intro w37 hw; have hg : wr.grownBy w37 (some go34) := (by rw [hw]; exact HP36.2); have hp_ : Kd.R Kd.bool 4 w37 w.heap.size (fun _ => True) (.slice (some ⟨go34, 0, none⟩) x12_3.length co34) y501 := (by rw [hw, Ny501.out]; exact HP36.1); clear HP36; have n0_ := Aside0.mk (Kd.R_over' (v := (.slice (some ⟨go34, 0, none⟩) x12_3.length co34)) (by (with_reducible repeat (first | apply Kd.R_alloc | apply Kd.R_drewN | apply Kd.R_drew)); exact HO_9.out) (Kd.R_typed HO_12.out) (by decide) hg); have n1_ := Aside0.mk (hp_); have n2_ := Aside0.mk ((by rw [hw]; exact below_set (HB.out) GB34.out : Below w.heap.size w w37)); clear HO_9; clear HO_12; clear HB; have HO_9 := n0_; have HO_12 := n1_; have HB := n2_; clear n0_ n1_ n2_; clear hg hw hp_))
                                go_loopg [14] k3 (fun kq v14 w' => ∃ (x14_4 : Int), v14 = .int .i64 x14_4 ∧ Aside0 (keystonelaw4_InstrFits.l1 kq l0 a2 t491 y501 x14_4 = some r) ∧ Aside0 (kq ≤ k3) ∧ Aside0 (Kd.R k77 77 w' w.heap.size (fun _ => True) (.slice Ao35 t491.length co35) t491) ∧ Aside0 (Kd.R Kd.bool 4 w' w.heap.size (fun _ => True) (.slice (some ⟨go34, 0, none⟩) x12_3.length co34) y501) ∧ Aside0 (Below w.heap.size w w'))
                                case atStart => exact ⟨(0), R_, H', ⟨Nat.le_refl _⟩, ⟨by (with_reducible repeat (first | apply Kd.R_alloc | apply Kd.R_drewN | apply Kd.R_drew)); exact HO_9.out⟩, ⟨by (with_reducible repeat (first | apply Kd.R_alloc | apply Kd.R_drewN | apply Kd.R_drew)); exact HO_12.out⟩, ⟨B_⟩⟩
                                case round =>
                                  clear H'
                                  try clear c1
                                  try clear c2
                                  try clear p2
                                  try clear q2
                                  try clear hx2
                                  try clear c3
                                  try clear p3
                                  try clear q3
                                  try clear hx3
                                  try clear hf3
                                  try clear p4
                                  try clear q4
                                  try clear hx4
                                  try clear c5
                                  try clear p6
                                  try clear c8
                                  try clear c8b0
                                  try clear c8b1
                                  try clear c9
                                  try clear c11
                                  try clear c11b0
                                  try clear c11b1
                                  try clear c13
                                  try clear c16
                                  try clear c16b0
                                  try clear c16b1
                                  try clear c18
                                  try clear c20
                                  try clear c20b0
                                  try clear c20b1
                                  try clear c21
                                  try clear c21b0
                                  try clear c21b1
                                  try clear c24
                                  try clear c24b0
                                  try clear c25
                                  try clear c25b0
                                  try clear c26
                                  try clear c26b0
                                  try clear c27
                                  try clear c27b0
                                  try clear p28
                                  try clear q28
                                  try clear hx28
                                  try clear hf28
                                  try clear c32
                                  try clear c32b0
                                  try clear c32b1
                                  try clear c33
                                  try clear c33b0
                                  try clear c33b1
                                  try clear p34
                                  try clear q34
                                  try clear hx34
                                  try clear hf34
                                  try clear c35
                                  try clear hx28_0
                                  try clear hx34_0
                                  try clear hx499_0
                                  try clear hx499_1
                                  try clear hx499_2
                                  try clear hx499_3
                                  try clear p2
                                  try clear p28
                                  try clear p34
                                  try clear p499
                                  try clear p6
                                  try clear q28
                                  try clear q34
                                  try clear q499
                                  obtain ⟨x14_4, rfl, HA, HK4, HO_9, HO_12, HB⟩ := hrel
                                  have hl12_4 := (Kd.R_reads' HO_12.out).1
                                  rw [hl12_4] at HO_12
                                  (try simp only [hl12_4])
                                  (try simp only [hl12_4] at HO_9)
                                  cases gk with
                                  | zero => exact absurd HA.out (by simp [keystonelaw4_InstrFits.l1])
                                  | succ k4 =>
                                    have H := HA.out
                                    clear HA
                                    simp only [keystonelaw4_InstrFits.l1] at H
                                    by_cases c38 : x14_4 < (t491.length : Int)
                                    · rw [if_pos c38] at H
                                      have c38b0 : decide (x14_4 < (t491.length : Int)) = true := decide_eq_true c38
                                      clear c38
                                      by_cases c39 : 0 ≤ x14_4
                                      · rw [if_pos c39] at H
                                        have c39b0 : decide (0 ≤ x14_4) = true := decide_eq_true c39
                                        clear c39
                                        replace H := Option.bind_eq_some_iff.mp H
                                        obtain ⟨t503, A400, H⟩ := H
                                        replace H : (keystonelaw4_InstrFits.l2 k4 l0 a2 t491 y501 x14_4 t503 0) = some r := H
                                        have A40 := Aside0.mk A400
                                        clear A400
                                        have H' := Aside0.mk H
                                        clear H
                                        have p502 : 0 ≤ (x14_4 : Int) := of_decide_eq_true (by first | (with_reducible assumption) | assumption)
                                        have q502 : x14_4 < (t491.length : Int) := of_decide_eq_true (by first | (with_reducible assumption) | assumption)
                                        obtain ⟨ad502, e502, hx502_0, hx502_1, hx502_2, hx502_3⟩ := at_T77 (Kd.R_reads' HO_9.out).2.2 x14_4 p502 q502
                                        cases e502
                                        replace p502 := eq_true p502
                                        replace q502 := eq_true q502
                                        go_wp2_with (first | ((with_reducible refine gate_callee (f := 36) rfl ?_); refine goesL_ (some 80) rfl rfl Tryd.func36 (by kernel_rfl) rfl #[.agg #[.int .i64 ((rd_T77 t491 x14_4).f0), .int .i64 ((rd_T77 t491 x14_4).f1), .int .i64 ((rd_T77 t491 x14_4).f2), .int .i64 ((rd_T77 t491 x14_4).f3)]] rfl (by (try simp only [List.map_toArray, List.map_cons, List.map_nil]); first | done | rfl | (simp only [List.length_drop, List.length_take]; rfl)) ?_; (with_reducible refine (instr_Next.calls k4 ((rd_T77 t491 x14_4).f0) ((rd_T77 t491 x14_4).f1) ((rd_T77 t491 x14_4).f2) ((rd_T77 t491 x14_4).f3) t503 _ A40.out).mono ?_); rintro e w41 ⟨v504, rfl, ho0, hb⟩; refine ⟨_, rfl, ?_⟩; have n0_ := Aside0.mk (Kd.R_below (by (with_reducible repeat (first | apply Kd.R_alloc | apply Kd.R_drewN | apply Kd.R_drew)); exact HO_9.out) hb); have n1_ := Aside0.mk (Kd.R_below (by (with_reducible repeat (first | apply Kd.R_alloc | apply Kd.R_drewN | apply Kd.R_drew)); exact HO_12.out) hb); have n2_ := Aside0.mk (Kd.R_lower ho0 (below_size B_)); have n3_ := Aside0.mk (below_step B_ hb); clear HO_9; clear HO_12; clear HB; have HO_9 := n0_; have HO_12 := n1_; have HO505 := n2_; have HB := n3_; clear n0_ n1_ n2_ n3_; (try clear hb); (try clear hb2); (try clear hk); (try clear hi); (try clear ho0)))
                                        go_loopg [16] k4 (fun kq v16 w' => ∃ (x16_5 : Int), v16 = .int .i64 x16_5 ∧ Aside0 (keystonelaw4_InstrFits.l2 kq l0 a2 t491 y501 x14_4 t503 x16_5 = some r) ∧ Aside0 (kq ≤ k4) ∧ Aside0 (Kd.R k77 77 w' w.heap.size (fun _ => True) (.slice (some ad502) t491.length co35) t491) ∧ Aside0 (Kd.R Kd.bool 4 w' w.heap.size (fun _ => True) (.slice (some ⟨go34, 0, none⟩) y501.length co34) y501) ∧ Aside0 (Kd.R (Kd.int .i64) 3 w' w.heap.size (fun _ => True) v504 t503) ∧ Aside0 (Below w.heap.size w w'))
                                        case atStart => exact ⟨(0), R_, H', ⟨Nat.le_refl _⟩, ⟨by (try simp only [hl12_4]); (with_reducible repeat (first | apply Kd.R_alloc | apply Kd.R_drewN | apply Kd.R_drew)); exact HO_9.out⟩, ⟨by (try simp only [hl12_4]); (with_reducible repeat (first | apply Kd.R_alloc | apply Kd.R_drewN | apply Kd.R_drew)); exact HO_12.out⟩, ⟨by (try simp only [hl12_4]); (with_reducible repeat (first | apply Kd.R_alloc | apply Kd.R_drewN | apply Kd.R_drew)); exact HO505.out⟩, ⟨B_⟩⟩
                                        case round =>
                                          clear H'
                                          try clear c1
                                          try clear c2
                                          try clear p2
                                          try clear q2
                                          try clear hx2
                                          try clear c3
                                          try clear p3
                                          try clear q3
                                          try clear hx3
                                          try clear hf3
                                          try clear p4
                                          try clear q4
                                          try clear hx4
                                          try clear c5
                                          try clear p5
                                          try clear q5
                                          try clear hx5
                                          try clear p6
                                          try clear c8
                                          try clear c8b0
                                          try clear c8b1
                                          try clear c9
                                          try clear c11
                                          try clear c11b0
                                          try clear c11b1
                                          try clear c13
                                          try clear c16
                                          try clear c16b0
                                          try clear c16b1
                                          try clear c18
                                          try clear c20
                                          try clear c20b0
                                          try clear c20b1
                                          try clear c21
                                          try clear c21b0
                                          try clear c21b1
                                          try clear c24
                                          try clear c24b0
                                          try clear c25
                                          try clear c25b0
                                          try clear c26
                                          try clear c26b0
                                          try clear c27
                                          try clear c27b0
                                          try clear p28
                                          try clear q28
                                          try clear hx28
                                          try clear hf28
                                          try clear c32
                                          try clear c32b0
                                          try clear c32b1
                                          try clear c33
                                          try clear c33b0
                                          try clear c33b1
                                          try clear p34
                                          try clear q34
                                          try clear hx34
                                          try clear hf34
                                          try clear c35
                                          try clear c36
                                          try clear c38
                                          try clear c38b0
                                          try clear c39
                                          try clear c39b0
                                          try clear hx28_0
                                          try clear hx34_0
                                          try clear hx499_0
                                          try clear hx499_1
                                          try clear hx499_2
                                          try clear hx499_3
                                          try clear hx502_0
                                          try clear hx502_1
                                          try clear hx502_2
                                          try clear hx502_3
                                          try clear p2
                                          try clear p28
                                          try clear p3
                                          try clear p34
                                          try clear p4
                                          try clear p499
                                          try clear p502
                                          try clear p6
                                          try clear q2
                                          try clear q28
                                          try clear q3
                                          try clear q34
                                          try clear q4
                                          try clear q499
                                          try clear q502
                                          obtain ⟨x16_5, rfl, HA, HK5, HO_9, HO_12, HO_15, HB⟩ := hrel
                                          cases gk with
                                          | zero => exact absurd HA.out (by simp [keystonelaw4_InstrFits.l2])
                                          | succ k5 =>
                                            have H := HA.out
                                            clear HA
                                            simp only [keystonelaw4_InstrFits.l2] at H
                                            by_cases c42 : x16_5 < (t503.length : Int)
                                            · rw [if_pos c42] at H
                                              have c42b0 : decide (x16_5 < (t503.length : Int)) = true := decide_eq_true c42
                                              clear c42
                                              by_cases c43 : 0 ≤ x16_5
                                              · rw [if_pos c43] at H
                                                have c43b0 : decide (0 ≤ x16_5) = true := decide_eq_true c43
                                                clear c43
                                                by_cases c44 : (rd t503 x16_5) < 0
                                                · rw [if_pos c44] at H
                                                  have c44b0 : decide ((rd t503 x16_5) < 0) = true := decide_eq_true c44
                                                  clear c44
                                                  obtain rfl := Option.some.inj H
                                                  exact absurd HT.out (by decide)
                                                · rw [if_neg c44] at H
                                                  have c44b0 : decide ((rd t503 x16_5) < 0) = false := decide_eq_false c44
                                                  clear c44
                                                  by_cases c45 : (rd t503 x16_5) > (l0.length : Int)
                                                  · rw [if_pos c45] at H
                                                    have c45b0 : decide ((l0.length : Int) < (rd t503 x16_5)) = true := decide_eq_true c45
                                                    clear c45
                                                    obtain rfl := Option.some.inj H
                                                    exact absurd HT.out (by decide)
                                                  · rw [if_neg c45] at H
                                                    have c45b0 : decide ((l0.length : Int) < (rd t503 x16_5)) = false := decide_eq_false c45
                                                    clear c45
                                                    by_cases c46 : 0 ≤ (rd t503 x16_5)
                                                    · rw [if_pos c46] at H
                                                      have c46b0 : decide (0 ≤ (rd t503 x16_5)) = true := decide_eq_true c46
                                                      clear c46
                                                      by_cases c47 : (rd t503 x16_5) < (y501.length : Int)
                                                      · rw [if_pos c47] at H
                                                        have c47b0 : decide ((rd t503 x16_5) < (y501.length : Int)) = true := decide_eq_true c47
                                                        clear c47
                                                        obtain ⟨bq48, hbq48⟩ : ∃ b_ : Bool, b_ = (rdOf false y501 (rd t503 x16_5)) := ⟨_, rfl⟩
                                                        replace H : (if (bq48 = true) then (keystonelaw4_InstrFits.l2 k5 l0 a2 t491 y501 x14_4 t503 (wrap64 (x16_5 + 1))) else (some false)) = some r := by rw [← hbq48] at H; exact H
                                                        have Nbq48 := Aside0.mk hbq48
                                                        clear hbq48
                                                        by_cases c49 : (bq48 = true)
                                                        · subst c49
                                                          have H1 : (keystonelaw4_InstrFits.l2 k5 l0 a2 t491 y501 x14_4 t503 (wrap64 (x16_5 + 1))) = some r := by rw [if_pos rfl] at H; exact H
                                                          clear H
                                                          have H := H1
                                                          clear H1
                                                          have H' := Aside0.mk H
                                                          clear H
                                                          obtain ⟨Ao50, co50, eo50⟩ := Kd.R_slice HO_15.out
                                                          subst eo50
                                                          have p506 : 0 ≤ (x16_5 : Int) := of_decide_eq_true (by first | (with_reducible assumption) | assumption)
                                                          have q506 : x16_5 < (t503.length : Int) := of_decide_eq_true (by first | (with_reducible assumption) | assumption)
                                                          obtain ⟨ad506, e506, hx506_0⟩ := Kd.at_int (Kd.R_reads' HO_15.out).2.2 x16_5 p506 q506
                                                          cases e506
                                                          replace p506 := eq_true p506
                                                          replace q506 := eq_true q506
                                                          have p507 : 0 ≤ (x16_5 : Int) := of_decide_eq_true (by first | (with_reducible assumption) | assumption)
                                                          have q507 : x16_5 < (t503.length : Int) := of_decide_eq_true (by first | (with_reducible assumption) | assumption)
                                                          obtain ⟨ad507, e507, hx507_0⟩ := Kd.at_int (Kd.R_reads' HO_15.out).2.2 x16_5 p507 q507
                                                          obtain rfl : ad506 = ad507 := (by injection e507)
                                                          replace p507 := eq_true p507
                                                          replace q507 := eq_true q507
                                                          have p508 : 0 ≤ (x16_5 : Int) := of_decide_eq_true (by first | (with_reducible assumption) | assumption)
                                                          have q508 : x16_5 < (t503.length : Int) := of_decide_eq_true (by first | (with_reducible assumption) | assumption)
                                                          obtain ⟨ad508, e508, hx508_0⟩ := Kd.at_int (Kd.R_reads' HO_15.out).2.2 x16_5 p508 q508
                                                          obtain rfl : ad506 = ad508 := (by injection e508)
                                                          replace p508 := eq_true p508
                                                          replace q508 := eq_true q508
                                                          have p509 : 0 ≤ ((rd t503 x16_5) : Int) := of_decide_eq_true (by first | (with_reducible assumption) | assumption)
                                                          have q509 : (rd t503 x16_5) < (y501.length : Int) := of_decide_eq_true (by first | (with_reducible assumption) | assumption)
                                                          obtain ⟨ad509, e509, hx509_0⟩ := Kd.at_bool (Kd.R_reads' HO_12.out).2.2 (rd t503 x16_5) p509 q509
                                                          (try rw [← Nbq48.out] at hx509_0)
                                                          obtain rfl : (⟨go34, 0, none⟩ : Addr) = ad509 := (by injection e509)
                                                          (first | simp only [add_plain] at hx509_0 | simp only [add_at] at hx509_0 | simp only [Addr.add, Nat.zero_add] at hx509_0 | skip)
                                                          replace p509 := eq_true p509
                                                          replace q509 := eq_true q509
                                                          go_wp2
                                                          go_roundg k5
                                                          case measure => have := HJ5.out; have := HJ12.out; have := HK3.out; have := HK4.out; have := HK5.out; omega
                                                          case rel => exact ⟨(wrap64 (x16_5 + 1)), R_, H', ⟨by have := HJ5.out; have := HJ12.out; have := HK3.out; have := HK4.out; have := HK5.out; omega⟩, ⟨by (try simp only [hl12_4]); (with_reducible repeat (first | apply Kd.R_alloc | apply Kd.R_drewN | apply Kd.R_drew)); exact HO_9.out⟩, ⟨by (try simp only [hl12_4]); (with_reducible repeat (first | apply Kd.R_alloc | apply Kd.R_drewN | apply Kd.R_drew)); exact HO_12.out⟩, ⟨by (try simp only [hl12_4]); (with_reducible repeat (first | apply Kd.R_alloc | apply Kd.R_drewN | apply Kd.R_drew)); exact HO_15.out⟩, ⟨B_⟩⟩
                                                        · replace c49 := Bool.eq_false_iff.mpr c49
                                                          subst c49
                                                          have H1 : (some false) = some r := by rw [if_neg (show ¬ (false = true) by decide)] at H; exact H
                                                          clear H
                                                          have H := H1
                                                          clear H1
                                                          obtain rfl := Option.some.inj H
                                                          exact absurd HT.out (by decide)
                                                      · rw [if_neg c47] at H
                                                        exact absurd H (by simp)
                                                    · rw [if_neg c46] at H
                                                      exact absurd H (by simp)
                                              · rw [if_neg c43] at H
                                                exact absurd H (by simp)
                                            · rw [if_neg c42] at H
                                              have c42b0 : decide (x16_5 < (t503.length : Int)) = false := decide_eq_false c42
                                              clear c42
                                              by_cases c51 : 0 ≤ x14_4
                                              · rw [if_pos c51] at H
                                                have c51b0 : decide (0 ≤ x14_4) = true := decide_eq_true c51
                                                clear c51
                                                by_cases c52 : x14_4 < (t491.length : Int)
                                                · rw [if_pos c52] at H
                                                  have c52b0 : decide (x14_4 < (t491.length : Int)) = true := decide_eq_true c52
                                                  clear c52
                                                  by_cases c53 : ((rd_T77 t491 x14_4).f1) = 3
                                                  · rw [if_pos c53] at H
                                                    have c53b0 : (((rd_T77 t491 x14_4).f1) == 3) = true := beq_iff_eq.mpr c53
                                                    have c53b1 : (((rd_T77 t491 x14_4).f1) != 3) = false := bne_eq_false_iff_eq.mpr c53
                                                    clear c53
                                                    by_cases c54 : ((rd_T77 t491 x14_4).f2) ≥ a2
                                                    · rw [if_pos c54] at H
                                                      have c54b0 : decide (a2 ≤ ((rd_T77 t491 x14_4).f2)) = true := decide_eq_true c54
                                                      clear c54
                                                      obtain rfl := Option.some.inj H
                                                      exact absurd HT.out (by decide)
                                                    · rw [if_neg c54] at H
                                                      have c54b0 : decide (a2 ≤ ((rd_T77 t491 x14_4).f2)) = false := decide_eq_false c54
                                                      clear c54
                                                      have H' := Aside0.mk H
                                                      clear H
                                                      obtain ⟨Ao55, co55, eo55⟩ := Kd.R_slice HO_15.out
                                                      subst eo55
                                                      have p510 : 0 ≤ (x14_4 : Int) := of_decide_eq_true (by first | (with_reducible assumption) | assumption)
                                                      have q510 : x14_4 < (t491.length : Int) := of_decide_eq_true (by first | (with_reducible assumption) | assumption)
                                                      obtain ⟨ad510, e510, hx510_0, hx510_1, hx510_2, hx510_3⟩ := at_T77 (Kd.R_reads' HO_9.out).2.2 x14_4 p510 q510
                                                      obtain rfl : ad502 = ad510 := (by injection e510)
                                                      replace p510 := eq_true p510
                                                      replace q510 := eq_true q510
                                                      have p511 : 0 ≤ (x14_4 : Int) := of_decide_eq_true (by first | (with_reducible assumption) | assumption)
                                                      have q511 : x14_4 < (t491.length : Int) := of_decide_eq_true (by first | (with_reducible assumption) | assumption)
                                                      obtain ⟨ad511, e511, hx511_0, hx511_1, hx511_2, hx511_3⟩ := at_T77 (Kd.R_reads' HO_9.out).2.2 x14_4 p511 q511
                                                      obtain rfl : ad502 = ad511 := (by injection e511)
                                                      replace p511 := eq_true p511
                                                      replace q511 := eq_true q511
                                                      go_wp2
                                                      (try simp only [← hl12_4])
                                                      go_roundg k5
                                                      case measure => have := HJ5.out; have := HJ12.out; have := HK3.out; have := HK4.out; have := HK5.out; omega
                                                      case rel => exact ⟨(wrap64 (x14_4 + 1)), R_, H', ⟨by have := HJ5.out; have := HJ12.out; have := HK3.out; have := HK4.out; have := HK5.out; omega⟩, ⟨by (try simp only [hl12_4]); (with_reducible repeat (first | apply Kd.R_alloc | apply Kd.R_drewN | apply Kd.R_drew)); exact HO_9.out⟩, ⟨by (try simp only [hl12_4]); (with_reducible repeat (first | apply Kd.R_alloc | apply Kd.R_drewN | apply Kd.R_drew)); exact HO_12.out⟩, ⟨B_⟩⟩
                                                  · rw [if_neg c53] at H
                                                    have c53b0 : (((rd_T77 t491 x14_4).f1) == 3) = false := beq_eq_false_iff_ne.mpr c53
                                                    have c53b1 : (((rd_T77 t491 x14_4).f1) != 3) = true := bne_iff_ne.mpr c53
                                                    by_cases c56 : ((rd_T77 t491 x14_4).f1) = 4
                                                    · rw [if_pos c56] at H
                                                      have c56b0 : (((rd_T77 t491 x14_4).f1) == 4) = true := beq_iff_eq.mpr c56
                                                      have c56b1 : (((rd_T77 t491 x14_4).f1) != 4) = false := bne_eq_false_iff_eq.mpr c56
                                                      clear c56
                                                      by_cases c57 : ((rd_T77 t491 x14_4).f2) ≥ a2
                                                      · rw [if_pos c57] at H
                                                        have c57b0 : decide (a2 ≤ ((rd_T77 t491 x14_4).f2)) = true := decide_eq_true c57
                                                        clear c57
                                                        obtain rfl := Option.some.inj H
                                                        exact absurd HT.out (by decide)
                                                      · rw [if_neg c57] at H
                                                        have c57b0 : decide (a2 ≤ ((rd_T77 t491 x14_4).f2)) = false := decide_eq_false c57
                                                        clear c57
                                                        have H' := Aside0.mk H
                                                        clear H
                                                        obtain ⟨Ao58, co58, eo58⟩ := Kd.R_slice HO_15.out
                                                        subst eo58
                                                        have p510 : 0 ≤ (x14_4 : Int) := of_decide_eq_true (by first | (with_reducible assumption) | assumption)
                                                        have q510 : x14_4 < (t491.length : Int) := of_decide_eq_true (by first | (with_reducible assumption) | assumption)
                                                        obtain ⟨ad510, e510, hx510_0, hx510_1, hx510_2, hx510_3⟩ := at_T77 (Kd.R_reads' HO_9.out).2.2 x14_4 p510 q510
                                                        obtain rfl : ad502 = ad510 := (by injection e510)
                                                        replace p510 := eq_true p510
                                                        replace q510 := eq_true q510
                                                        have p512 : 0 ≤ (x14_4 : Int) := of_decide_eq_true (by first | (with_reducible assumption) | assumption)
                                                        have q512 : x14_4 < (t491.length : Int) := of_decide_eq_true (by first | (with_reducible assumption) | assumption)
                                                        obtain ⟨ad512, e512, hx512_0, hx512_1, hx512_2, hx512_3⟩ := at_T77 (Kd.R_reads' HO_9.out).2.2 x14_4 p512 q512
                                                        obtain rfl : ad502 = ad512 := (by injection e512)
                                                        replace p512 := eq_true p512
                                                        replace q512 := eq_true q512
                                                        have p513 : 0 ≤ (x14_4 : Int) := of_decide_eq_true (by first | (with_reducible assumption) | assumption)
                                                        have q513 : x14_4 < (t491.length : Int) := of_decide_eq_true (by first | (with_reducible assumption) | assumption)
                                                        obtain ⟨ad513, e513, hx513_0, hx513_1, hx513_2, hx513_3⟩ := at_T77 (Kd.R_reads' HO_9.out).2.2 x14_4 p513 q513
                                                        obtain rfl : ad502 = ad513 := (by injection e513)
                                                        replace p513 := eq_true p513
                                                        replace q513 := eq_true q513
                                                        go_wp2
                                                        (try simp only [← hl12_4])
                                                        go_roundg k5
                                                        case measure => have := HJ5.out; have := HJ12.out; have := HK3.out; have := HK4.out; have := HK5.out; omega
                                                        case rel => exact ⟨(wrap64 (x14_4 + 1)), R_, H', ⟨by have := HJ5.out; have := HJ12.out; have := HK3.out; have := HK4.out; have := HK5.out; omega⟩, ⟨by (try simp only [hl12_4]); (with_reducible repeat (first | apply Kd.R_alloc | apply Kd.R_drewN | apply Kd.R_drew)); exact HO_9.out⟩, ⟨by (try simp only [hl12_4]); (with_reducible repeat (first | apply Kd.R_alloc | apply Kd.R_drewN | apply Kd.R_drew)); exact HO_12.out⟩, ⟨B_⟩⟩
                                                    · rw [if_neg c56] at H
                                                      have c56b0 : (((rd_T77 t491 x14_4).f1) == 4) = false := beq_eq_false_iff_ne.mpr c56
                                                      have c56b1 : (((rd_T77 t491 x14_4).f1) != 4) = true := bne_iff_ne.mpr c56
                                                      have H' := Aside0.mk H
                                                      clear H
                                                      obtain ⟨Ao59, co59, eo59⟩ := Kd.R_slice HO_15.out
                                                      subst eo59
                                                      have p510 : 0 ≤ (x14_4 : Int) := of_decide_eq_true (by first | (with_reducible assumption) | assumption)
                                                      have q510 : x14_4 < (t491.length : Int) := of_decide_eq_true (by first | (with_reducible assumption) | assumption)
                                                      obtain ⟨ad510, e510, hx510_0, hx510_1, hx510_2, hx510_3⟩ := at_T77 (Kd.R_reads' HO_9.out).2.2 x14_4 p510 q510
                                                      obtain rfl : ad502 = ad510 := (by injection e510)
                                                      replace p510 := eq_true p510
                                                      replace q510 := eq_true q510
                                                      have p512 : 0 ≤ (x14_4 : Int) := of_decide_eq_true (by first | (with_reducible assumption) | assumption)
                                                      have q512 : x14_4 < (t491.length : Int) := of_decide_eq_true (by first | (with_reducible assumption) | assumption)
                                                      obtain ⟨ad512, e512, hx512_0, hx512_1, hx512_2, hx512_3⟩ := at_T77 (Kd.R_reads' HO_9.out).2.2 x14_4 p512 q512
                                                      obtain rfl : ad502 = ad512 := (by injection e512)
                                                      replace p512 := eq_true p512
                                                      replace q512 := eq_true q512
                                                      go_wp2
                                                      (try simp only [← hl12_4])
                                                      go_roundg k5
                                                      case measure => have := HJ5.out; have := HJ12.out; have := HK3.out; have := HK4.out; have := HK5.out; omega
                                                      case rel => exact ⟨(wrap64 (x14_4 + 1)), R_, H', ⟨by have := HJ5.out; have := HJ12.out; have := HK3.out; have := HK4.out; have := HK5.out; omega⟩, ⟨by (try simp only [hl12_4]); (with_reducible repeat (first | apply Kd.R_alloc | apply Kd.R_drewN | apply Kd.R_drew)); exact HO_9.out⟩, ⟨by (try simp only [hl12_4]); (with_reducible repeat (first | apply Kd.R_alloc | apply Kd.R_drewN | apply Kd.R_drew)); exact HO_12.out⟩, ⟨B_⟩⟩
                                                · rw [if_neg c52] at H
                                                  exact absurd H (by simp)
                                              · rw [if_neg c51] at H
                                                exact absurd H (by simp)
                                      · rw [if_neg c39] at H
                                        exact absurd H (by simp)
                                    · rw [if_neg c38] at H
                                      have c38b0 : decide (x14_4 < (t491.length : Int)) = false := decide_eq_false c38
                                      clear c38
                                      obtain rfl := Option.some.inj H
                                      go_wp2
                                      go_ret
                                      exact ⟨by first | rfl | (simp [errW_none, errW_some] <;> rfl) | (simp only [← hji19]; first | rfl | (simp [errW_none, errW_some] <;> rfl)) | (simp [*, errW_none, errW_some] <;> rfl), B_⟩
                              · rw [if_neg c33] at H
                                exact absurd H (by simp)
                            · rw [if_neg c32] at H
                              exact absurd H (by simp)
                    · rw [if_neg c21] at H
                      exact absurd H (by simp)
                  · rw [if_neg c20] at H
                    exact absurd H (by simp)
          · rw [if_neg c11] at H
            have c11b0 : (t490 == 0) = false := beq_eq_false_iff_ne.mpr c11
            have c11b1 : (t490 != 0) = true := bne_iff_ne.mpr c11
            obtain rfl := Option.some.inj H
            go_wp2_with (first | ((with_reducible refine gate_callee (f := 33) rfl ?_); refine goesL_ (some 31) rfl rfl Tryd.func33 (by kernel_rfl) rfl #[.slice A0 l0.length c0, .slice A1 l1.length c1, .int .i64 a2] rfl (by (try simp only [List.map_toArray, List.map_cons, List.map_nil]); first | done | rfl | (simp only [List.length_drop, List.length_take]; rfl)) ?_; (with_reducible refine (instr_Check.calls kj5 _ _ l0 _ _ l1 a2 t489 t490 _ ?side1 ?side2 ?side3 ?side4 A10.out).mono ?_); (case side1 => repeat (first | exact (Kd.C_below HR0.out HB.out) | (with_reducible refine Kd.C_alloc ?_ _) | (with_reducible refine Kd.C_drewN ?_ _) | (with_reducible refine Kd.C_drew ?_))); (case side2 => exact HC0.out); (case side3 => repeat (first | exact (Kd.C_below HR1.out HB.out) | (with_reducible refine Kd.C_alloc ?_ _) | (with_reducible refine Kd.C_drewN ?_ _) | (with_reducible refine Kd.C_drew ?_))); (case side4 => exact HC1.out); rintro e w60 ⟨rfl, hb⟩; refine ⟨_, rfl, ?_⟩; have n0_ := Aside0.mk (below_step B_ hb); clear HB; have HB := n0_; clear n0_; (try clear hb); (try clear hb2); (try clear hk); (try clear hi)))
            go_ret
            exact ⟨by first | rfl | (simp [errW_none, errW_some] <;> rfl) | (simp [*, errW_none, errW_some] <;> rfl), B_⟩
  · replace c5 := Bool.eq_false_iff.mpr c5
    subst c5
    have H1 : (some false) = some r := by rw [if_neg (show ¬ (false = true) by decide)] at H; exact H
    clear H
    have H := H1
    clear H1
    obtain rfl := Option.some.inj H
    exact absurd HT.out (by decide)

end Go.Proofs.YtldejfkplnejjaaDoor.P
