-- Written by my program xprint.py (a patched run of the kit's print). Lean checks it.
import Derived.Test.YtldejfkplnejjaaDoorP0
import Derived.Test.YtldejfkplnejjaaDoorP1
import Derived.Test.YtldejfkplnejjaaDoorP10
import Derived.Test.YtldejfkplnejjaaDoorP13
import Derived.Test.YtldejfkplnejjaaDoorP14
import Derived.Test.YtldejfkplnejjaaDoorExt
import Derived.Test.YtldejfkplnejjaaDoorShort
import Derived.Test.YtldejfkplnejjaaDoorShort2
namespace Go.Proofs.YtldejfkplnejjaaDoor.P
open Go.RowKit Go.Proofs.YtldejfkplnejjaaDoorW.PrintWords Go.Proofs.YtldejfkplnejjaaDoorW.PrintLast Go.Proofs.YtldejfkplnejjaaDoorW.PrintMore
attribute [local go_sem] max2_int min2_int max_two min_two max_three min_three max_four min_four   -- for this text's walks alone
set_option linter.unusedVariables false
set_option linter.unusedSimpArgs false
attribute [local go_sem high] eqA34
mutual
def instr_Decode.j0 : Nat → List Int → Int → Bool → Option (Int × Int × Int × Int × Int)
 | 0, _, _, _ => none
 | k + 1, x0, x1, x16 => if x16 = true then (some (0, 0, 0, 0, 11)) else (if 0 ≤ x1 then (if x1 < (x0.length : Int) then ((instr_Size.f k (wrap64 (rd x0 x1))).bind fun t400 => (if t400 = 0 then (some (0, 0, 0, 0, 17)) else (if t400 > (wrap64 ((x0.length : Int) - x1)) then (some (0, 0, 0, 0, 11)) else (if 0 ≤ (wrap64 (x1 + 1)) then (if (wrap64 (x1 + 1)) ≤ (wrap64 (x1 + t400)) then (if (wrap64 (x1 + t400)) ≤ (x0.length : Int) then (instr_Decode.l0 k ((x0.take ((wrap64 (x1 + t400)) : Int).toNat).drop ((wrap64 (x1 + 1)) : Int).toNat) (((x0.take ((wrap64 (x1 + t400)) : Int).toNat).drop ((wrap64 (x1 + 1)) : Int).toNat).length : Int) 0 x1 (wrap64 (rd x0 x1)) 0 t400) else (none)) else (none)) else (none))))) else (none)) else (none))
def instr_Decode.l0 : Nat → List Int → Int → Int → Int → Int → Int → Int → Option (Int × Int × Int × Int × Int)
 | 0, _, _, _, _, _, _, _ => none
 | k + 1, x50, x51, x52, x400000, x400001, x400002, x400003 => if x52 < x51 then (if 0 ≤ x52 then (if x52 < (x50.length : Int) then (instr_Decode.l0 k x50 x51 (wrap64 (x52 + 1)) x400000 x400001 (Go.bits .or .i64 (wrap64 (x400002 * 256)) (wrap64 (rd x50 x52))) x400003) else (none)) else (none)) else (some (x400000, x400001, x400002, x400003, 0))
end
def instr_Decode.f (k : Nat) (l0 : List Int) (a1 : Int) : Option (Int × Int × Int × Int × Int) := if a1 < 0 then (instr_Decode.j0 k l0 a1 true) else (instr_Decode.j0 k l0 a1 (decide (a1 ≥ (l0.length : Int))))
theorem instr_Decode.mono_l : ∀ k, (∀ y0 y1 y2, LeO (instr_Decode.j0 k y0 y1 y2) (instr_Decode.j0 (k + 1) y0 y1 y2)) ∧ (∀ y0 y1 y2 y3 y4 y5 y6, LeO (instr_Decode.l0 k y0 y1 y2 y3 y4 y5 y6) (instr_Decode.l0 (k + 1) y0 y1 y2 y3 y4 y5 y6))
 | 0 => ⟨fun _ _ _ r h => by simp [instr_Decode.j0] at h, fun _ _ _ _ _ _ _ r h => by simp [instr_Decode.l0] at h⟩
 | k + 1 => by
  obtain ⟨ih0, ih1⟩ := instr_Decode.mono_l k
  refine ⟨?_, ?_⟩
  ·
   intro y0 y1 y2
   unfold instr_Decode.j0
   repeat' first
   | (with_reducible exact ih0 _ _ _)
   | (with_reducible exact ih1 _ _ _ _ _ _ _)
   | (with_reducible exact instr_Size.mono _ _)
   | (with_reducible exact LeO.refl _)
   | (with_reducible exact LeO.none _)
   | (with_reducible refine LeO.ite ?_ ?_)
   | (with_reducible refine LeO.bind ?_ (fun _ => ?_))
   | exact ih0 _ _ _
   | exact ih1 _ _ _ _ _ _ _
   | exact instr_Size.mono _ _
   | exact LeO.none _
   | refine LeO.ite ?_ ?_
   | refine LeO.bind ?_ (fun _ => ?_)
  ·
   intro y0 y1 y2 y3 y4 y5 y6
   unfold instr_Decode.l0
   repeat' first
   | (with_reducible exact ih0 _ _ _)
   | (with_reducible exact ih1 _ _ _ _ _ _ _)
   | (with_reducible exact instr_Size.mono _ _)
   | (with_reducible exact LeO.refl _)
   | (with_reducible exact LeO.none _)
   | (with_reducible refine LeO.ite ?_ ?_)
   | (with_reducible refine LeO.bind ?_ (fun _ => ?_))
   | exact ih0 _ _ _
   | exact ih1 _ _ _ _ _ _ _
   | exact instr_Size.mono _ _
   | exact LeO.none _
   | refine LeO.ite ?_ ?_
   | refine LeO.bind ?_ (fun _ => ?_)
theorem instr_Decode.mono : ∀ a0 a1 k, LeO (instr_Decode.f k a0 a1) (instr_Decode.f (k + 1) a0 a1) := by
 intro a0 a1 k
 obtain ⟨ih0, ih1⟩ := instr_Decode.mono_l k
 unfold instr_Decode.f
 repeat' first
  | (with_reducible exact ih0 _ _ _)
  | (with_reducible exact ih1 _ _ _ _ _ _ _)
  | (with_reducible exact instr_Size.mono _ _)
  | (with_reducible exact LeO.refl _)
  | (with_reducible exact LeO.none _)
  | (with_reducible refine LeO.ite ?_ ?_)
  | (with_reducible refine LeO.bind ?_ (fun _ => ?_))
  | exact ih0 _ _ _
  | exact ih1 _ _ _ _ _ _ _
  | exact instr_Size.mono _ _
  | exact LeO.none _
  | refine LeO.ite ?_ ?_
  | refine LeO.bind ?_ (fun _ => ?_)
set_option maxHeartbeats 8000000 in
set_option maxRecDepth 100000 in
theorem instr_Decode.calls (k : Nat) (A0 : Option Addr) (c0 : Nat) (l0 : List Int) (a1 : Int) (r1 : Int) (r2 : Int) (r3 : Int) (r4 : Int) (r5 : Int) (w : World) (hr0 : Kd.C (Kd.int .u8) w A0 l0.length l0) (hc0 : l0.length ≤ c0) (h : instr_Decode.f k l0 a1 = some (r1, r2, r3, r4, r5)) :
 Calls Tryd.prog 71 #[.slice A0 l0.length c0, .int .i64 a1] w fun e w' => e = .returned (.tuple #[.agg #[.int .i64 r1, .int .i64 r2, .int .i64 r3, .int .i64 r4], .int .i64 r5]) ∧ Below w.heap.size w w' := by
 have hu77 := Tryd.underlying77
 have HR0 := Aside0.mk hr0
 have HC0 := Aside0.mk hc0
 clear hr0 hc0
 have HB := Aside0.mk (Below.refl w.heap.size w)
 have H : (if a1 < 0 then (instr_Decode.j0 k l0 a1 true) else (instr_Decode.j0 k l0 a1 (decide (a1 ≥ (l0.length : Int))))) = some (r1, r2, r3, r4, r5) := h
 clear h
 have HC3 := Aside0.mk H
 clear H
 go_enter Tryd.func71, Tryd.ntmps71
 go_upto_region 1 with (first | ((with_reducible refine d_ 4 ?_); (try (refine gate_guard (by rfl) ?_; dsimp only)); refine X_ 4 #[.int .i64 0, .int .i64 0, .int .i64 0, .int .i64 0] 77 ?_; intro gb397 hg w4 hbox hb; have BK397 := Aside0.mk hbox; have GW397 := Aside0.mk (s_ hg); have GE397 := GW397; have HB := bs_ hb; clear hb hbox hg))
 (try simp only [Act.put, List.setIfInBounds_toArray, List.set_cons_zero, List.set_cons_succ])
 go_cut [16] (fun v16 wc => ∃ (kq : Nat) (x16_2 : Bool), v16 = .bool x16_2 ∧ Aside0 (instr_Decode.j0 kq l0 a1 x16_2 = some (r1, r2, r3, r4, r5)) ∧ Aside0 (kq ≤ k) ∧ Aside0 (wc.heap[gb397]? = some (.cells #[.int .i64 0, .int .i64 0, .int .i64 0, .int .i64 0] 77 (0, 0))) ∧ Aside0 (Below w.heap.size w wc))
 case first =>
  have H := HC3.out
  clear HC3
  by_cases c5 : a1 < 0
  ·
   rw [if_pos c5] at H
   have c5b0 : decide (a1 < 0) = true := decide_eq_true c5
   clear c5
   (first | rw [c5b0] | (simp only [i64_w, i32_w]; rw [c5b0]) | skip)
   have H' := Aside0.mk H
   clear H
   go_wp2
   go_meet
   case rel => exact ⟨_, (true), R_, H', ⟨by first | omega | exact Nat.le_refl _⟩, ⟨M_⟩, ⟨B_⟩⟩
  ·
   rw [if_neg c5] at H
   have c5b0 : decide (a1 < 0) = false := decide_eq_false c5
   clear c5
   (first | rw [c5b0] | (simp only [i64_w, i32_w]; rw [c5b0]) | skip)
   have H' := Aside0.mk H
   clear H
   go_wp2
   go_meet
   case rel => exact ⟨_, (decide (a1 ≥ (l0.length : Int))), R_, H', ⟨by first | omega | exact Nat.le_refl _⟩, ⟨M_⟩, ⟨B_⟩⟩
 case rest =>
  clear HC3
  obtain ⟨kq, x16_2, rfl, HA, HJ2, BK397, HB⟩ := hcut
  cases kq with
  | zero => exact absurd HA.out (by simp [instr_Decode.j0])
  | succ kj2 =>
   have H := HA.out
   clear HA
   simp only [instr_Decode.j0] at H
   by_cases c6 : x16_2 = true
   ·
    subst c6
    have H1 : (some (0, 0, 0, 0, 11)) = some (r1, r2, r3, r4, r5) := by rw [if_pos rfl] at H; exact H
    clear H
    have H := H1
    clear H1
    simp only [Option.some.injEq, Prod.mk.injEq] at H
    obtain ⟨rfl, rfl, rfl, rfl, rfl⟩ := H
    obtain ⟨hcz7_0, hcz7_1, hcz7_2, hcz7_3, hfz7_0, hfz7_1, hfz7_2, hfz7_3⟩ := c4_ BK397.out
    go_wp2
    refine bodyPost_ret (results_ct rfl _ _ gb397 77 #[.int .i64 0, .int .i64 0, .int .i64 0, .int .i64 0] (0, 0) _ rfl P_ Tryd.underlying77 rfl (by kernel_rfl)) rfl ?_
    exact ⟨E_, B_⟩
   ·
    replace c6 := Bool.eq_false_iff.mpr c6
    subst c6
    have H1 : (if 0 ≤ a1 then (if a1 < (l0.length : Int) then ((instr_Size.f kj2 (wrap64 (rd l0 a1))).bind fun t400 => (if t400 = 0 then (some (0, 0, 0, 0, 17)) else (if t400 > (wrap64 ((l0.length : Int) - a1)) then (some (0, 0, 0, 0, 11)) else (if 0 ≤ (wrap64 (a1 + 1)) then (if (wrap64 (a1 + 1)) ≤ (wrap64 (a1 + t400)) then (if (wrap64 (a1 + t400)) ≤ (l0.length : Int) then (instr_Decode.l0 kj2 ((l0.take ((wrap64 (a1 + t400)) : Int).toNat).drop ((wrap64 (a1 + 1)) : Int).toNat) (((l0.take ((wrap64 (a1 + t400)) : Int).toNat).drop ((wrap64 (a1 + 1)) : Int).toNat).length : Int) 0 a1 (wrap64 (rd l0 a1)) 0 t400) else (none)) else (none)) else (none))))) else (none)) else (none)) = some (r1, r2, r3, r4, r5) := by rw [if_neg (show ¬ (false = true) by decide)] at H; exact H
    clear H
    have H := H1
    clear H1
    by_cases c8 : 0 ≤ a1
    ·
     rw [if_pos c8] at H
     have c8b0 : decide (0 ≤ a1) = true := decide_eq_true c8
     clear c8
     by_cases c9 : a1 < (l0.length : Int)
     ·
      rw [if_pos c9] at H
      have c9b0 : decide (a1 < (l0.length : Int)) = true := decide_eq_true c9
      clear c9
      replace H := Option.bind_eq_some_iff.mp H
      obtain ⟨t400, A100, H⟩ := H
      replace H : (if t400 = 0 then (some (0, 0, 0, 0, 17)) else (if t400 > (wrap64 ((l0.length : Int) - a1)) then (some (0, 0, 0, 0, 11)) else (if 0 ≤ (wrap64 (a1 + 1)) then (if (wrap64 (a1 + 1)) ≤ (wrap64 (a1 + t400)) then (if (wrap64 (a1 + t400)) ≤ (l0.length : Int) then (instr_Decode.l0 kj2 ((l0.take ((wrap64 (a1 + t400)) : Int).toNat).drop ((wrap64 (a1 + 1)) : Int).toNat) (((l0.take ((wrap64 (a1 + t400)) : Int).toNat).drop ((wrap64 (a1 + 1)) : Int).toNat).length : Int) 0 a1 (wrap64 (rd l0 a1)) 0 t400) else (none)) else (none)) else (none)))) = some (r1, r2, r3, r4, r5) := H
      have A10 := Aside0.mk A100
      clear A100
      by_cases c11 : t400 = 0
      ·
       rw [if_pos c11] at H
       have c11b0 : (t400 == 0) = true := beq_iff_eq.mpr c11
       have c11b1 : (t400 != 0) = false := bne_eq_false_iff_eq.mpr c11
       clear c11
       simp only [Option.some.injEq, Prod.mk.injEq] at H
       obtain ⟨rfl, rfl, rfl, rfl, rfl⟩ := H
       have p398 : 0 ≤ (a1 : Int) := of_decide_eq_true A_
       have q398 : a1 < (l0.length : Int) := of_decide_eq_true A_
       obtain ⟨ad398, e398, hx398_0⟩ := Kd.at_int HR0.out a1 p398 q398
       cases e398
       replace hx398_0 := h_ HB hx398_0
       replace p398 := eq_true p398
       replace q398 := eq_true q398; (try (have q398s := q398; rw [HLEN28.out] at q398s))
       go_wp2_with (first | ((with_reducible refine d_ 6 ?_); (try (refine gate_guard (by rfl) ?_; dsimp only)); refine X_ 6 #[.int .i64 0, .int .i64 0, .int .i64 0, .int .i64 0] 77 ?_; intro gb399 hg w12 hbox hb; have BK399 := Aside0.mk hbox; have GW399 := Aside0.mk (s_ hg); have GE399 := GW399; have NB397_399 := Aside0.mk (xx_ hg BK397); have BK397 := kb_ BK397 hb; have NB399_397 := Aside0.mk NB397_399.out.symm; have HB := bs_ hb; clear hb hbox hg; have hnb13 := NB399_397.out; have hnc13 := NB397_399.out; obtain ⟨hcz14_0, hcz14_1, hcz14_2, hcz14_3, hfz14_0, hfz14_1, hfz14_2, hfz14_3⟩ := c4_ BK399.out) | ((with_reducible refine gt_ 62 ?_); refine gd_ 27 Tryd.func62 (instr_Size.calls kj2 (wrap64 (rd l0 a1)) t400 _ A10.out) ?_; rintro w' ⟨nd, rfl⟩; obtain ⟨hcz15_0, hcz15_1, hcz15_2, hcz15_3, hfz15_0, hfz15_1, hfz15_2, hfz15_3⟩ := c4_ BK397.out))
       refine bodyPost_ret (results_ct rfl _ _ gb397 77 #[.int .i64 0, .int .i64 0, .int .i64 0, .int .i64 0] (0, 0) _ rfl P_ Tryd.underlying77 rfl (by kernel_rfl)) rfl ?_
       exact ⟨E_, B_⟩
      ·
       rw [if_neg c11] at H
       have c11b0 : (t400 == 0) = false := beq_eq_false_iff_ne.mpr c11
       have c11b1 : (t400 != 0) = true := bne_iff_ne.mpr c11
       by_cases c16 : t400 > (wrap64 ((l0.length : Int) - a1))
       ·
        rw [if_pos c16] at H
        have c16b0 : decide ((wrap64 ((l0.length : Int) - a1)) < t400) = true := decide_eq_true c16
        clear c16
        simp only [Option.some.injEq, Prod.mk.injEq] at H
        obtain ⟨rfl, rfl, rfl, rfl, rfl⟩ := H
        have p398 : 0 ≤ (a1 : Int) := of_decide_eq_true A_
        have q398 : a1 < (l0.length : Int) := of_decide_eq_true A_
        obtain ⟨ad398, e398, hx398_0⟩ := Kd.at_int HR0.out a1 p398 q398
        cases e398
        replace hx398_0 := h_ HB hx398_0
        replace p398 := eq_true p398
        replace q398 := eq_true q398; (try (have q398s := q398; rw [HLEN28.out] at q398s))
        go_wp2_with (first | ((with_reducible refine d_ 6 ?_); (try (refine gate_guard (by rfl) ?_; dsimp only)); refine X_ 6 #[.int .i64 0, .int .i64 0, .int .i64 0, .int .i64 0] 77 ?_; intro gb399 hg w17 hbox hb; have BK399 := Aside0.mk hbox; have GW399 := Aside0.mk (s_ hg); have GE399 := GW399; have NB397_399 := Aside0.mk (xx_ hg BK397); have BK397 := kb_ BK397 hb; have NB399_397 := Aside0.mk NB397_399.out.symm; have HB := bs_ hb; clear hb hbox hg; have hnb18 := NB399_397.out; have hnc18 := NB397_399.out; obtain ⟨hcz19_0, hcz19_1, hcz19_2, hcz19_3, hfz19_0, hfz19_1, hfz19_2, hfz19_3⟩ := c4_ BK399.out) | ((with_reducible refine gt_ 62 ?_); refine gd_ 27 Tryd.func62 (instr_Size.calls kj2 (wrap64 (rd l0 a1)) t400 _ A10.out) ?_; rintro w' ⟨nd, rfl⟩; obtain ⟨hcz20_0, hcz20_1, hcz20_2, hcz20_3, hfz20_0, hfz20_1, hfz20_2, hfz20_3⟩ := c4_ BK397.out))
        refine bodyPost_ret (results_ct rfl _ _ gb397 77 #[.int .i64 0, .int .i64 0, .int .i64 0, .int .i64 0] (0, 0) _ rfl P_ Tryd.underlying77 rfl (by kernel_rfl)) rfl ?_
        exact ⟨E_, B_⟩
       ·
        rw [if_neg c16] at H
        have c16b0 : decide ((wrap64 ((l0.length : Int) - a1)) < t400) = false := decide_eq_false c16
        clear c16
        obtain ⟨ji21, hji21⟩ : ∃ j_ : Int, (wrap64 (a1 + 1)) = j_ := ⟨_, rfl⟩
        replace H : (if 0 ≤ (ji21) then (if (ji21) ≤ (wrap64 (a1 + t400)) then (if (wrap64 (a1 + t400)) ≤ (l0.length : Int) then (instr_Decode.l0 kj2 ((l0.take ((wrap64 (a1 + t400)) : Int).toNat).drop ((ji21) : Int).toNat) (((l0.take ((wrap64 (a1 + t400)) : Int).toNat).drop ((ji21) : Int).toNat).length : Int) 0 a1 (wrap64 (rd l0 a1)) 0 t400) else (none)) else (none)) else (none)) = some (r1, r2, r3, r4, r5) := by first | (rw [hji21] at H; exact H) | (simp only [hji21] at H ⊢; exact H)
        (try rw [hji21] at A10)
        have hji21w : (IntKind.i64.wrap (a1 + 1)) = ji21 := (i64_w _).trans hji21
        by_cases c22 : 0 ≤ (ji21)
        ·
         rw [if_pos c22] at H
         have c22b0 := eq_true c22
         have c22b1 : decide (0 ≤ (ji21)) = true := decide_eq_true c22
         clear c22
         by_cases c23 : (ji21) ≤ (wrap64 (a1 + t400))
         ·
          rw [if_pos c23] at H
          have c23b0 := eq_true c23
          have c23b1 : decide ((ji21) ≤ (wrap64 (a1 + t400))) = true := decide_eq_true c23
          by_cases c24 : (wrap64 (a1 + t400)) ≤ (l0.length : Int)
          ·
           rw [if_pos c24] at H
           have c24b0 := eq_true c24
           have c24b1 : decide ((wrap64 (a1 + t400)) ≤ (l0.length : Int)) = true := decide_eq_true c24
           have H' := Aside0.mk H
           clear H
           have p398 : 0 ≤ (a1 : Int) := of_decide_eq_true A_
           have q398 : a1 < (l0.length : Int) := of_decide_eq_true A_
           obtain ⟨ad398, e398, hx398_0⟩ := Kd.at_int HR0.out a1 p398 q398
           cases e398
           replace hx398_0 := h_ HB hx398_0
           replace p398 := eq_true p398
           replace q398 := eq_true q398; (try (have q398s := q398; rw [HLEN28.out] at q398s))
           go_wp2_with (first | ((with_reducible refine d_ 6 ?_); (try (refine gate_guard (by rfl) ?_; dsimp only)); refine X_ 6 #[.int .i64 0, .int .i64 0, .int .i64 0, .int .i64 0] 77 ?_; intro gb399 hg w25 hbox hb; have BK399 := Aside0.mk hbox; have GW399 := Aside0.mk (s_ hg); have GE399 := GW399; have NB397_399 := Aside0.mk (xx_ hg BK397); have BK397 := kb_ BK397 hb; have NB399_397 := Aside0.mk NB397_399.out.symm; have HB := bs_ hb; clear hb hbox hg; have hnb26 := NB399_397.out; have hnc26 := NB397_399.out; obtain ⟨hcz27_0, hcz27_1, hcz27_2, hcz27_3, hfz27_0, hfz27_1, hfz27_2, hfz27_3⟩ := c4_ BK399.out) | ((with_reducible refine gt_ 62 ?_); refine gd_ 27 Tryd.func62 (instr_Size.calls kj2 (wrap64 (rd l0 a1)) t400 _ A10.out) ?_; rintro w' ⟨nd, rfl⟩; obtain ⟨i028, hi028, _, hsz28, _⟩ := info_parts info5; obtain ⟨A28, hcut28, hA28, hC28⟩ := print_mid_of (P := Tryd.prog) (Value.int .u8) 0 69 5 .i64 .i64 Tryd.underlying69 hi028 hsz28 (some ad398) c0 l0 (ji21) (wrap64 (a1 + t400)) (of_decide_eq_true A_) (by first | omega | exact of_decide_eq_true A_) (of_decide_eq_true A_) HC0.out; have HR401 := Aside0.mk (Kd.C_of_reads (h1 := fun _ => rfl) (hA28 _ (Kd.reads_of_C HR0.out))); have HC401 := Aside0.mk hC28; clear hA28 hC28 hi028 hsz28; have HLEN28 := Aside0.mk (show ((l0.take ((wrap64 (a1 + t400)) : Int).toNat).drop ((ji21) : Int).toNat).length = ((wrap64 (a1 + t400)).toNat - (ji21).toNat) from (by rw [List.length_drop, List.length_take]; have h_ : ((wrap64 (a1 + t400)) : Int) ≤ (l0.length : Int) := of_decide_eq_true A_; omega))))
           go_loopg [52] kj2 (fun kq v52 w' => ∃ (x52_2 : Int) (x400002_2 : Int), v52 = .int .i64 x52_2 ∧ Aside0 (instr_Decode.l0 kq ((l0.take ((wrap64 (a1 + t400)) : Int).toNat).drop ((ji21) : Int).toNat) (((l0.take ((wrap64 (a1 + t400)) : Int).toNat).drop ((ji21) : Int).toNat).length : Int) x52_2 a1 (wrap64 (rd l0 a1)) x400002_2 t400 = some (r1, r2, r3, r4, r5)) ∧ Aside0 (kq ≤ kj2) ∧ Aside0 (w'.heap[gb397]? = some (.cells #[.int .i64 0, .int .i64 0, .int .i64 0, .int .i64 0] 77 (0, 0))) ∧ Aside0 (w'.heap[gb399]? = some (.cells #[.int .i64 a1, .int .i64 (wrap64 (rd l0 a1)), .int .i64 x400002_2, .int .i64 t400] 77 (0, 0))) ∧ Aside0 (Below w.heap.size w w'))
           case atStart => exact ⟨(0), (0), R_, H', ⟨Nat.le_refl _⟩, ⟨P_⟩, ⟨P_⟩, ⟨B_⟩⟩
           case round =>
            clear H' c8b0 c9b0 c11 c11b0 c11b1 c16b0 c22b0 c22b1 c23 c23b0 c23b1 c24 c24b0 c24b1 hcz27_0 hcz27_1 hcz27_2 hcz27_3 hfz27_0 hfz27_1 hfz27_2 hfz27_3 hx398_0 p398 q398
            obtain ⟨x52_2, x400002_2, rfl, HA, HK2, BK397, BK399, HB⟩ := hrel
            cases gk with
            | zero => exact absurd HA.out (by simp [instr_Decode.l0])
            | succ k2 =>
             have H := HA.out
             clear HA
             simp only [instr_Decode.l0] at H
             by_cases c29 : x52_2 < (((l0.take ((wrap64 (a1 + t400)) : Int).toNat).drop ((ji21) : Int).toNat).length : Int)
             ·
              rw [if_pos c29] at H
              have c29b0 : decide (x52_2 < (((l0.take ((wrap64 (a1 + t400)) : Int).toNat).drop ((ji21) : Int).toNat).length : Int)) = true := decide_eq_true c29
              (try (have c29b0s := c29b0; rw [HLEN28.out] at c29b0s))
              clear c29
              by_cases c30 : 0 ≤ x52_2
              ·
               rw [if_pos c30] at H
               have c30b0 : decide (0 ≤ x52_2) = true := decide_eq_true c30
               clear c30
               by_cases c31 : x52_2 < (((l0.take ((wrap64 (a1 + t400)) : Int).toNat).drop ((ji21) : Int).toNat).length : Int)
               ·
                rw [if_pos c31] at H
                have c31b0 : decide (x52_2 < (((l0.take ((wrap64 (a1 + t400)) : Int).toNat).drop ((ji21) : Int).toNat).length : Int)) = true := decide_eq_true c31
                (try (have c31b0s := c31b0; rw [HLEN28.out] at c31b0s))
                clear c31
                have H' := Aside0.mk H
                clear H
                have p402 : 0 ≤ (x52_2 : Int) := of_decide_eq_true A_
                have q402 : x52_2 < (((l0.take ((wrap64 (a1 + t400)) : Int).toNat).drop ((ji21) : Int).toNat).length : Int) := of_decide_eq_true A_
                obtain ⟨ad402, e402, hx402_0⟩ := Kd.at_int HR401.out x52_2 p402 q402
                cases e402
                replace hx402_0 := h_ HB hx402_0
                replace p402 := eq_true p402
                replace q402 := eq_true q402; (try (have q402s := q402; rw [HLEN28.out] at q402s))
                have hnb32 := NB399_397.out
                have hnc32 := NB397_399.out
                obtain ⟨hcz33_0, hcz33_1, hcz33_2, hcz33_3, hfz33_0, hfz33_1, hfz33_2, hfz33_3⟩ := c4_ BK399.out
                go_wp2
                go_roundg k2
                case measure => have := HJ2.out; have := HK2.out; omega
                case rel => exact ⟨(wrap64 (x52_2 + 1)), (Go.bits .or .i64 (wrap64 (x400002_2 * 256)) (wrap64 (rd ((l0.take ((wrap64 (a1 + t400)) : Int).toNat).drop ((ji21) : Int).toNat) x52_2))), R_, H', ⟨by have := HJ2.out; have := HK2.out; omega⟩, ⟨P_⟩, ⟨P_⟩, ⟨B_⟩⟩
               ·
                rw [if_neg c31] at H
                exact absurd H (by simp)
              ·
               rw [if_neg c30] at H
               exact absurd H (by simp)
             ·
              rw [if_neg c29] at H
              have c29b0 : decide (x52_2 < (((l0.take ((wrap64 (a1 + t400)) : Int).toNat).drop ((ji21) : Int).toNat).length : Int)) = false := decide_eq_false c29
              (try (have c29b0s := c29b0; rw [HLEN28.out] at c29b0s))
              clear c29
              simp only [Option.some.injEq, Prod.mk.injEq] at H
              obtain ⟨rfl, rfl, rfl, rfl, rfl⟩ := H
              have hnb34 := NB399_397.out
              have hnc34 := NB397_399.out
              obtain ⟨hcz35_0, hcz35_1, hcz35_2, hcz35_3, hfz35_0, hfz35_1, hfz35_2, hfz35_3⟩ := c4_ BK399.out
              obtain ⟨hcz36_0, hcz36_1, hcz36_2, hcz36_3, hfz36_0, hfz36_1, hfz36_2, hfz36_3⟩ := c4_ BK397.out
              go_wp2
              refine bodyPost_ret (results_ct rfl _ _ gb397 77 #[.int .i64 a1, .int .i64 (wrap64 (rd l0 a1)), .int .i64 x400002_2, .int .i64 t400] (0, 0) _ rfl P_ Tryd.underlying77 rfl (by kernel_rfl)) rfl ?_
              exact ⟨by first | rfl | (simp [errW_none, errW_some] <;> rfl) | (simp only [← hji21]; first | rfl | (simp [errW_none, errW_some] <;> rfl)) | (simp [*, errW_none, errW_some] <;> rfl), B_⟩
          ·
           rw [if_neg c24] at H
           exact absurd H (by simp)
         ·
          rw [if_neg c23] at H
          exact absurd H (by simp)
        ·
         rw [if_neg c22] at H
         exact absurd H (by simp)
     ·
      rw [if_neg c9] at H
      exact absurd H (by simp)
    ·
     rw [if_neg c8] at H
     exact absurd H (by simp)
def instr_All.l0 : Nat → List Int → List (S77) → Int → Option ((List (S77)) × Int × Int)
 | 0, _, _, _ => none
 | k + 1, x0, x5, x6 => if x6 < (x0.length : Int) then ((instr_Decode.f k x0 x6).bind fun bt403 => (if bt403.2.2.2.2 = 0 then (if x5.length < 4398046511104 then (instr_All.l0 k x0 (x5 ++ [(⟨bt403.1, bt403.2.1, bt403.2.2.1, bt403.2.2.2.1⟩ : S77)]) (wrap64 (x6 + bt403.2.2.2.1))) else (none)) else (some (([] : List (S77)), x6, bt403.2.2.2.2)))) else (some (x5, 0, 0))
def instr_All.f (k : Nat) (l0 : List Int) : Option ((List (S77)) × Int × Int) := instr_All.l0 k l0 ([] : List (S77)) 0
theorem instr_All.mono_l : ∀ k, (∀ y0 y1 y2, LeO (instr_All.l0 k y0 y1 y2) (instr_All.l0 (k + 1) y0 y1 y2))
 | 0 => fun _ _ _ r h => by simp [instr_All.l0] at h
 | k + 1 => by
  have ih0 := instr_All.mono_l k
  ·
   intro y0 y1 y2
   unfold instr_All.l0
   repeat' first
   | (with_reducible exact ih0 _ _ _)
   | (with_reducible exact instr_Decode.mono _ _ _)
   | (with_reducible exact LeO.refl _)
   | (with_reducible exact LeO.none _)
   | (with_reducible refine LeO.ite ?_ ?_)
   | (with_reducible refine LeO.bind ?_ (fun _ => ?_))
   | exact ih0 _ _ _
   | exact instr_Decode.mono _ _ _
   | exact LeO.none _
   | refine LeO.ite ?_ ?_
   | refine LeO.bind ?_ (fun _ => ?_)
theorem instr_All.mono : ∀ a0 k, LeO (instr_All.f k a0) (instr_All.f (k + 1) a0) := by
 intro a0 k
 have ih0 := instr_All.mono_l k
 unfold instr_All.f
 repeat' first
  | (with_reducible exact ih0 _ _ _)
  | (with_reducible exact instr_Decode.mono _ _ _)
  | (with_reducible exact LeO.refl _)
  | (with_reducible exact LeO.none _)
  | (with_reducible refine LeO.ite ?_ ?_)
  | (with_reducible refine LeO.bind ?_ (fun _ => ?_))
  | exact ih0 _ _ _
  | exact instr_Decode.mono _ _ _
  | exact LeO.none _
  | refine LeO.ite ?_ ?_
  | refine LeO.bind ?_ (fun _ => ?_)
set_option maxHeartbeats 8000000 in
set_option maxRecDepth 100000 in
theorem instr_All.calls (k : Nat) (A0 : Option Addr) (c0 : Nat) (l0 : List Int) (r1 : List (S77)) (r2 : Int) (r3 : Int) (w : World) (hr0 : Kd.C (Kd.int .u8) w A0 l0.length l0) (hc0 : l0.length ≤ c0) (h : instr_All.f k l0 = some (r1, r2, r3)) :
 Calls Tryd.prog 35 #[.slice A0 l0.length c0] w fun e w' => ∃ v0_ : Value, e = .returned (.tuple #[v0_, .int .i64 r2, .int .i64 r3]) ∧ Kd.R k77 77 w' w.heap.size (fun _ => True) v0_ r1 ∧ Below w.heap.size w w' := by
 have hu77 := Tryd.underlying77
 have HR0 := Aside0.mk hr0
 have HC0 := Aside0.mk hc0
 clear hr0 hc0
 have HB := Aside0.mk (Below.refl w.heap.size w)
 have H : (instr_All.l0 k l0 ([] : List (S77)) 0) = some (r1, r2, r3) := h
 clear h
 have H' := Aside0.mk H
 clear H
 go_enter Tryd.func35, Tryd.ntmps35
 go_wp2
 go_loopg [5, 6] k (fun kq v5 v6 w' => ∃ (x5_1 : List (S77)) (x6_1 : Int), v6 = .int .i64 x6_1 ∧ Aside0 (instr_All.l0 kq l0 x5_1 x6_1 = some (r1, r2, r3)) ∧ Aside0 (kq ≤ k) ∧ Aside0 (Kd.R k77 77 w' w.heap.size (fun _ => True) v5 x5_1) ∧ Aside0 (Below w.heap.size w w'))
 case atStart => exact ⟨(([] : List (S77))), (0), R_, H', ⟨Nat.le_refl _⟩, ⟨by first | exact Kd.R_nil _ _ _ _ _ | exact Kd.N_nil _ _ _ _ _ | exact Kd.V_nil _ _ _ _ _ | exact Kd.Q_nil _ _ _ _ _ | exact Kd.S_nil _ _ _ _ _⟩, ⟨B_⟩⟩
 case round =>
  clear H'
  obtain ⟨x5_1, x6_1, rfl, HA, HK1, HO_5, HB⟩ := hrel
  cases gk with
  | zero => exact absurd HA.out (by simp [instr_All.l0])
  | succ k1 =>
   have H := HA.out
   clear HA
   simp only [instr_All.l0] at H
   by_cases c2 : x6_1 < (l0.length : Int)
   ·
    rw [if_pos c2] at H
    have c2b0 : decide (x6_1 < (l0.length : Int)) = true := decide_eq_true c2
    clear c2
    replace H := Option.bind_eq_some_iff.mp H
    obtain ⟨⟨t403, t404, t405, t406, t407⟩, A30, H⟩ := H
    replace H : (if t407 = 0 then (if x5_1.length < 4398046511104 then (instr_All.l0 k1 l0 (x5_1 ++ [(⟨t403, t404, t405, t406⟩ : S77)]) (wrap64 (x6_1 + t406))) else (none)) else (some (([] : List (S77)), x6_1, t407))) = some (r1, r2, r3) := H
    have A3 := Aside0.mk A30
    clear A30
    by_cases c4 : t407 = 0
    ·
     rw [if_pos c4] at H
     have c4b0 : (t407 == 0) = true := beq_iff_eq.mpr c4
     have c4b1 : (t407 != 0) = false := bne_eq_false_iff_eq.mpr c4
     clear c4
     by_cases c5 : x5_1.length < 4398046511104
     ·
      rw [if_pos c5] at H
      have LMc5 := Aside0.mk c5
      clear c5
      obtain ⟨y409, hy409⟩ : ∃ y_ : List (S77), y_ = (x5_1 ++ [(⟨t403, t404, t405, t406⟩ : S77)]) := ⟨_, rfl⟩
      replace H : (instr_All.l0 k1 l0 y409 (wrap64 (x6_1 + t406))) = some (r1, r2, r3) := by first | (rw [hy409]; with_reducible exact H) | (have H2_ := (Option.bind_some _ _).symm.trans H; rw [hy409]; with_reducible exact H2_) | (have H2_ := (Option.bind_some _ _).symm.trans H; with_reducible exact H2_) | with_reducible exact H | (rw [hy409]; exact H) | exact H
      have Ny409 := Aside0.mk hy409
      clear hy409
      have H' := Aside0.mk H
      clear H
      go_wp2_with (first | ((with_reducible refine gt_ 71 ?_); refine gd_ 16 Tryd.func71 (instr_Decode.calls k1 _ _ l0 x6_1 t403 t404 t405 t406 t407 _ (Y_ (Kd.C_below HR0.out HB.out)) HC0.out A3.out) ?_; intro w6 hb; have HO_5 := rb_ HO_5 hb; have HB := bs_ hb; (try clear hb); (try clear hb2); (try clear hk); (try clear hi)) | ((with_reducible refine d_ 7 ?_); refine X_ 7 #[.int .i64 0, .int .i64 0, .int .i64 0, .int .i64 0] 77 ?_; intro gb408 hg w7 hbox hb; have HO_5 := Aside0.mk (Kd.R_below (Kd.R_elderB (Q_ HO_5.out) gb408 (Nat.le_of_eq hg.symm)) hb); have BK408 := Aside0.mk hbox; have GW408 := Aside0.mk (s_ hg); have GE408 := GW408; have HB := bs_ hb; clear hb hbox hg; obtain ⟨hcz8_0, hcz8_1, hcz8_2, hcz8_3, hfz8_0, hfz8_1, hfz8_2, hfz8_3⟩ := c4_ BK408.out) | ((with_reducible refine gate_builtin (b := .append) (xs := #[.tmp 23, .tmp 25]) rfl ?_); at_builtin; refine Kd.R_append k77 (w0 := w) w.heap.size rfl (.tmp 23) (.tmp 25) 73 77 (.agg #[(.int .i64 0), (.int .i64 0), (.int .i64 0), (.int .i64 0)]) 32 rfl Tryd.underlying73 info77 rfl (by decide) (by omega) u5 x5_1 (⟨t403, t404, t405, t406⟩ : S77) [.int .i64 t403, .int .i64 t404, .int .i64 t405, .int .i64 t406] (fun k_ => k_ ≠ gb408) (fun _ => False) rfl (by first | (go_simp; done) | (go_simp; rfl)) ?aP (fun _ hk => hk.elim) ?aF ?aO ?aB ?aS ?aL ?_; (case aP => exact k77_mkM _ _ _ (⟨t403, t404, t405, t406⟩ : S77)); (case aB => exact B_); (case aF => exact (fun k_ hk => Kd.freshB (g := gb408) (o := .cells #[.int .i64 t403, .int .i64 t404, .int .i64 t405, .int .i64 t406] 77 (0, 0)) P_ k_ hk)); (case aO => exact (by (with_reducible repeat (first | apply Kd.R_alloc | apply Kd.R_drewN | apply Kd.R_drew)); exact Kd.R_mono (Kd.R_far (p := ⟨gb408, 3, none⟩) (Kd.R_far (p := ⟨gb408, 2, none⟩) (Kd.R_far (p := ⟨gb408, 1, none⟩) (Kd.R_far (p := ⟨gb408, 0, none⟩) (Kd.R_mono HO_5.out (fun k_ hk => (⟨hk, hk.2⟩ : _ ∧ k_ ≠ gb408))) (fun _ hk => hk.2) (.int .i64 t403)) (fun _ hk => hk.2) (.int .i64 t404)) (fun _ hk => hk.2) (.int .i64 t405)) (fun _ hk => hk.2) (.int .i64 t406)) (fun _ hk => hk.1.2))); (case aS => exact (below_size B_)); (case aL => have := LMc5.out; omega); intro v410 w9 ho hb hg hat; rw [← Ny409.out] at ho; have BK408 := Aside0.mk (blk_grown (g := gb408) (o := .cells #[.int .i64 t403, .int .i64 t404, .int .i64 t405, .int .i64 t406] 77 (0, 0)) P_ hg (Kd.R_away HO_5.out (fun _ hk => hk.2))); have HO411 := Aside0.mk (ho); have HB := Aside0.mk (hb); clear HO_5; clear ho hb hg hat; obtain ⟨hcz10_0, hcz10_1, hcz10_2, hcz10_3, hfz10_0, hfz10_1, hfz10_2, hfz10_3⟩ := c4_ BK408.out))
      go_roundg k1
      case measure => have := HK1.out; omega
      case rel => exact ⟨(y409), (wrap64 (x6_1 + t406)), R_, H', ⟨by have := HK1.out; omega⟩, ⟨by (with_reducible repeat (first | apply Kd.R_alloc | apply Kd.R_drewN | apply Kd.R_drew)); exact Kd.R_mono HO411.out (fun _ hk => trivial)⟩, ⟨B_⟩⟩
     ·
      rw [if_neg c5] at H
      exact absurd H (by simp)
    ·
     rw [if_neg c4] at H
     have c4b0 : (t407 == 0) = false := beq_eq_false_iff_ne.mpr c4
     have c4b1 : (t407 != 0) = true := bne_iff_ne.mpr c4
     simp only [Option.some.injEq, Prod.mk.injEq] at H
     obtain ⟨rfl, rfl, rfl⟩ := H
     go_wp2_with (first | ((with_reducible refine gt_ 71 ?_); refine gd_ 16 Tryd.func71 (instr_Decode.calls k1 _ _ l0 x6_1 t403 t404 t405 t406 t407 _ (Y_ (Kd.C_below HR0.out HB.out)) HC0.out A3.out) ?_; intro w11 hb; have HO_5 := rb_ HO_5 hb; have HB := bs_ hb; (try clear hb); (try clear hb2); (try clear hk); (try clear hi)) | ((with_reducible refine d_ 7 ?_); refine X_ 7 #[.int .i64 0, .int .i64 0, .int .i64 0, .int .i64 0] 77 ?_; intro gb408 hg w12 hbox hb; have HO_5 := Aside0.mk (Kd.R_below (Kd.R_elderB (Q_ HO_5.out) gb408 (Nat.le_of_eq hg.symm)) hb); have BK408 := Aside0.mk hbox; have GW408 := Aside0.mk (s_ hg); have GE408 := GW408; have HB := bs_ hb; clear hb hbox hg; obtain ⟨hcz13_0, hcz13_1, hcz13_2, hcz13_3, hfz13_0, hfz13_1, hfz13_2, hfz13_3⟩ := c4_ BK408.out))
     go_ret3
     exact ⟨_, E_, by first | exact Kd.R_nil _ _ _ _ _ | exact Kd.N_nil _ _ _ _ _ | exact Kd.V_nil _ _ _ _ _ | exact Kd.Q_nil _ _ _ _ _ | exact Kd.S_nil _ _ _ _ _, B_⟩
   ·
    rw [if_neg c2] at H
    have c2b0 : decide (x6_1 < (l0.length : Int)) = false := decide_eq_false c2
    clear c2
    simp only [Option.some.injEq, Prod.mk.injEq] at H
    obtain ⟨rfl, rfl, rfl⟩ := H
    go_wp2
    go_ret3
    exact ⟨_, E_, by (with_reducible repeat (first | apply Kd.R_alloc | apply Kd.R_drewN | apply Kd.R_drew)); exact HO_5.out, B_⟩
def instr_calls.f (k : Nat) (a0_0 : Int) (a0_1 : Int) (a0_2 : Int) (a0_3 : Int) (l1 : List (S50)) : Option (Int) := (pool_Method.f k l1 a0_2).bind fun bt413 => (if bt413.2.2.2.2.2.2 = 0 then (if ((bt413.2.1.toList == ([60, 105, 110, 105, 116, 62] : List UInt8)) != (a0_1 == 41)) = true then (some 14) else (if a0_1 = 41 then (if bt413.2.2.2.1 = true then (some 0) else (some 15)) else (some 0))) else (some bt413.2.2.2.2.2.2))
theorem instr_calls.mono : ∀ a0 a1 a2 a3 a4 k, LeO (instr_calls.f k a0 a1 a2 a3 a4) (instr_calls.f (k + 1) a0 a1 a2 a3 a4) := by
 intro a0 a1 a2 a3 a4 k
 unfold instr_calls.f
 repeat' first
  | (with_reducible exact pool_Method.mono _ _ _)
  | (with_reducible exact LeO.refl _)
  | (with_reducible exact LeO.none _)
  | (with_reducible refine LeO.ite ?_ ?_)
  | (with_reducible refine LeO.bind ?_ (fun _ => ?_))
  | exact pool_Method.mono _ _ _
  | exact LeO.none _
  | refine LeO.ite ?_ ?_
  | refine LeO.bind ?_ (fun _ => ?_)
set_option maxHeartbeats 8000000 in
set_option maxRecDepth 100000 in
theorem instr_calls.calls (k : Nat) (a0_0 : Int) (a0_1 : Int) (a0_2 : Int) (a0_3 : Int) (A1 : Option Addr) (c1 : Nat) (l1 : List (S50)) (r : Int) (w : World) (hr1 : Kd.C k50 w A1 l1.length l1) (hc1 : l1.length ≤ c1) (h : instr_calls.f k a0_0 a0_1 a0_2 a0_3 l1 = some r) :
 Calls Tryd.prog 65 #[.agg #[.int .i64 a0_0, .int .i64 a0_1, .int .i64 a0_2, .int .i64 a0_3], .slice A1 l1.length c1] w fun e w' => e = .returned (.int .i64 r) ∧ Below w.heap.size w w' := by
 have hu77 := Tryd.underlying77
 have hu39 := Tryd.underlying39
 have HR1 := Aside0.mk hr1
 have HC1 := Aside0.mk hc1
 clear hr1 hc1
 have HB := Aside0.mk (Below.refl w.heap.size w)
 have H : ((pool_Method.f k l1 a0_2).bind fun bt413 => (if bt413.2.2.2.2.2.2 = 0 then (if ((bt413.2.1.toList == ([60, 105, 110, 105, 116, 62] : List UInt8)) != (a0_1 == 41)) = true then (some 14) else (if a0_1 = 41 then (if bt413.2.2.2.1 = true then (some 0) else (some 15)) else (some 0))) else (some bt413.2.2.2.2.2.2))) = some r := h
 clear h
 replace H := Option.bind_eq_some_iff.mp H
 obtain ⟨⟨t413, t414, t415, t418, t419, t420, t421⟩, A30, H⟩ := H
 replace H : (if t421 = 0 then (if ((t414.toList == ([60, 105, 110, 105, 116, 62] : List UInt8)) != (a0_1 == 41)) = true then (some 14) else (if a0_1 = 41 then (if t418 = true then (some 0) else (some 15)) else (some 0))) else (some t421)) = some r := H
 have A3 := Aside0.mk A30
 clear A30
 by_cases c4 : t421 = 0
 ·
  rw [if_pos c4] at H
  have c4b0 : (t421 == 0) = true := beq_iff_eq.mpr c4
  have c4b1 : (t421 != 0) = false := bne_eq_false_iff_eq.mpr c4
  clear c4
  by_cases c5 : ((t414.toList == ([60, 105, 110, 105, 116, 62] : List UInt8)) != (a0_1 == 41)) = true
  ·
   rw [if_pos c5] at H
   have c5b0 : ((t414.toList == ([60, 105, 110, 105, 116, 62] : List UInt8)) != (a0_1 == 41)) = true := c5
   (try (have c5b1 : decide ((t414.toList == ([60, 105, 110, 105, 116, 62] : List UInt8)) = (a0_1 == 41)) = false := by simpa using c5))
   (try (have c5b2 : ((t414.toList == ([60, 105, 110, 105, 116, 62] : List UInt8)) == (a0_1 == 41)) = false := by simpa using c5))
   (try (have c5b3 : ¬ ((t414.toList == ([60, 105, 110, 105, 116, 62] : List UInt8)) = (a0_1 == 41)) := by simpa using c5))
   clear c5
   obtain rfl := Option.some.inj H
   go_enter Tryd.func65, Tryd.ntmps65
   go_wp2_with (first | ((with_reducible refine d_ 2 ?_); refine X_ 2 #[.int .i64 a0_0, .int .i64 a0_1, .int .i64 a0_2, .int .i64 a0_3] 77 ?_; intro gb412 hg w6 hbox hb; have BK412 := Aside0.mk hbox; have GW412 := Aside0.mk (s_ hg); have GE412 := GW412; have HB := bs_ hb; clear hb hbox hg; obtain ⟨hcz7_0, hcz7_1, hcz7_2, hcz7_3, hfz7_0, hfz7_1, hfz7_2, hfz7_3⟩ := c4_ BK412.out) | ((with_reducible refine gt_ 21 ?_); refine gc_ 13 Tryd.func21 #[.slice A1 l1.length c1, .int .i64 a0_2] ?_; (with_reducible refine (pool_Method.calls k _ _ l1 a0_2 t413 t414 t415 t418 t419 t420 t421 _ ?side1 ?side2 A3.out).mono ?_); (case side1 => exact Y_ (Kd.C_below HR1.out HB.out)); (case side2 => exact HC1.out); rintro e w8 ⟨v416, rfl, ho0, hb⟩; refine ⟨_, rfl, ?_⟩; have HO417 := Aside0.mk (Kd.R_lower ho0 (below_size B_)); have BK412 := kb_ BK412 hb; have HB := bs_ hb; (try clear hb); (try clear hb2); (try clear hk); (try clear hi); (try clear ho0)) | ((with_reducible refine d_ 7 ?_); refine X_ 7 #[.slice none 0 0, .bool false, .int .i64 0, .string (⟨#[]⟩ : ByteArray)] 39 ?_; intro gb422 hg w9 hbox hb; have HO417 := rb_ HO417 hb; have BK422 := Aside0.mk hbox; have GW422 := Aside0.mk (s_ hg); have GE422 := GW422; have NB412_422 := Aside0.mk (xx_ hg BK412); have BK412 := kb_ BK412 hb; have NB422_412 := Aside0.mk NB412_422.out.symm; have HB := bs_ hb; clear hb hbox hg; obtain ⟨Ao10, co10, eo10⟩ := Kd.R_slice HO417.out; subst eo10; have hnb11 := NB422_412.out; have hnc11 := NB412_422.out; obtain ⟨hcz12_0, hcz12_1, hcz12_2, hcz12_3, hfz12_0, hfz12_1, hfz12_2, hfz12_3⟩ := c4_ BK422.out; obtain ⟨hcz13_0, hcz13_1, hcz13_2, hcz13_3, hfz13_0, hfz13_1, hfz13_2, hfz13_3⟩ := c4_ BK412.out))
   go_ret
   exact ⟨E_, B_⟩
  ·
   rw [if_neg c5] at H
   have c5b0 : ((t414.toList == ([60, 105, 110, 105, 116, 62] : List UInt8)) != (a0_1 == 41)) = false := by simpa using c5
   (try (have c5b1 : decide ((t414.toList == ([60, 105, 110, 105, 116, 62] : List UInt8)) = (a0_1 == 41)) = true := by simpa using c5))
   (try (have c5b2 : ((t414.toList == ([60, 105, 110, 105, 116, 62] : List UInt8)) == (a0_1 == 41)) = true := by simpa using c5))
   clear c5
   by_cases c14 : a0_1 = 41
   ·
    rw [if_pos c14] at H
    have c14b0 : (a0_1 == 41) = true := beq_iff_eq.mpr c14
    have c14b1 : (a0_1 != 41) = false := bne_eq_false_iff_eq.mpr c14
    have c5b9 : (t414.toList == ([60, 105, 110, 105, 116, 62] : List UInt8)) = true := by rw [c14b0] at c5b0; simpa using c5b0
    clear c14
    by_cases c15 : t418 = true
    ·
     subst c15
     have H1 : (some 0) = some r := by rw [if_pos rfl] at H; exact H
     clear H
     have H := H1
     clear H1
     obtain rfl := Option.some.inj H
     go_enter Tryd.func65, Tryd.ntmps65
     go_wp2_with (first | ((with_reducible refine d_ 2 ?_); refine X_ 2 #[.int .i64 a0_0, .int .i64 a0_1, .int .i64 a0_2, .int .i64 a0_3] 77 ?_; intro gb412 hg w16 hbox hb; have BK412 := Aside0.mk hbox; have GW412 := Aside0.mk (s_ hg); have GE412 := GW412; have HB := bs_ hb; clear hb hbox hg; obtain ⟨hcz17_0, hcz17_1, hcz17_2, hcz17_3, hfz17_0, hfz17_1, hfz17_2, hfz17_3⟩ := c4_ BK412.out) | ((with_reducible refine gt_ 21 ?_); refine gc_ 13 Tryd.func21 #[.slice A1 l1.length c1, .int .i64 a0_2] ?_; (with_reducible refine (pool_Method.calls k _ _ l1 a0_2 t413 t414 t415 true t419 t420 t421 _ ?side1 ?side2 A3.out).mono ?_); (case side1 => exact Y_ (Kd.C_below HR1.out HB.out)); (case side2 => exact HC1.out); rintro e w18 ⟨v416, rfl, ho0, hb⟩; refine ⟨_, rfl, ?_⟩; have HO417 := Aside0.mk (Kd.R_lower ho0 (below_size B_)); have BK412 := kb_ BK412 hb; have HB := bs_ hb; (try clear hb); (try clear hb2); (try clear hk); (try clear hi); (try clear ho0)) | ((with_reducible refine d_ 7 ?_); refine X_ 7 #[.slice none 0 0, .bool false, .int .i64 0, .string (⟨#[]⟩ : ByteArray)] 39 ?_; intro gb422 hg w19 hbox hb; have HO417 := rb_ HO417 hb; have BK422 := Aside0.mk hbox; have GW422 := Aside0.mk (s_ hg); have GE422 := GW422; have NB412_422 := Aside0.mk (xx_ hg BK412); have BK412 := kb_ BK412 hb; have NB422_412 := Aside0.mk NB412_422.out.symm; have HB := bs_ hb; clear hb hbox hg; obtain ⟨Ao20, co20, eo20⟩ := Kd.R_slice HO417.out; subst eo20; have hnb21 := NB422_412.out; have hnc21 := NB412_422.out; obtain ⟨hcz22_0, hcz22_1, hcz22_2, hcz22_3, hfz22_0, hfz22_1, hfz22_2, hfz22_3⟩ := c4_ BK422.out; obtain ⟨hcz23_0, hcz23_1, hcz23_2, hcz23_3, hfz23_0, hfz23_1, hfz23_2, hfz23_3⟩ := c4_ BK412.out))
     go_ret
     exact ⟨E_, B_⟩
    ·
     replace c15 := Bool.eq_false_iff.mpr c15
     subst c15
     have H1 : (some 15) = some r := by rw [if_neg (show ¬ (false = true) by decide)] at H; exact H
     clear H
     have H := H1
     clear H1
     obtain rfl := Option.some.inj H
     go_enter Tryd.func65, Tryd.ntmps65
     go_wp2_with (first | ((with_reducible refine d_ 2 ?_); refine X_ 2 #[.int .i64 a0_0, .int .i64 a0_1, .int .i64 a0_2, .int .i64 a0_3] 77 ?_; intro gb412 hg w24 hbox hb; have BK412 := Aside0.mk hbox; have GW412 := Aside0.mk (s_ hg); have GE412 := GW412; have HB := bs_ hb; clear hb hbox hg; obtain ⟨hcz25_0, hcz25_1, hcz25_2, hcz25_3, hfz25_0, hfz25_1, hfz25_2, hfz25_3⟩ := c4_ BK412.out) | ((with_reducible refine gt_ 21 ?_); refine gc_ 13 Tryd.func21 #[.slice A1 l1.length c1, .int .i64 a0_2] ?_; (with_reducible refine (pool_Method.calls k _ _ l1 a0_2 t413 t414 t415 false t419 t420 t421 _ ?side1 ?side2 A3.out).mono ?_); (case side1 => exact Y_ (Kd.C_below HR1.out HB.out)); (case side2 => exact HC1.out); rintro e w26 ⟨v416, rfl, ho0, hb⟩; refine ⟨_, rfl, ?_⟩; have HO417 := Aside0.mk (Kd.R_lower ho0 (below_size B_)); have BK412 := kb_ BK412 hb; have HB := bs_ hb; (try clear hb); (try clear hb2); (try clear hk); (try clear hi); (try clear ho0)) | ((with_reducible refine d_ 7 ?_); refine X_ 7 #[.slice none 0 0, .bool false, .int .i64 0, .string (⟨#[]⟩ : ByteArray)] 39 ?_; intro gb422 hg w27 hbox hb; have HO417 := rb_ HO417 hb; have BK422 := Aside0.mk hbox; have GW422 := Aside0.mk (s_ hg); have GE422 := GW422; have NB412_422 := Aside0.mk (xx_ hg BK412); have BK412 := kb_ BK412 hb; have NB422_412 := Aside0.mk NB412_422.out.symm; have HB := bs_ hb; clear hb hbox hg; obtain ⟨Ao28, co28, eo28⟩ := Kd.R_slice HO417.out; subst eo28; have hnb29 := NB422_412.out; have hnc29 := NB412_422.out; obtain ⟨hcz30_0, hcz30_1, hcz30_2, hcz30_3, hfz30_0, hfz30_1, hfz30_2, hfz30_3⟩ := c4_ BK422.out; obtain ⟨hcz31_0, hcz31_1, hcz31_2, hcz31_3, hfz31_0, hfz31_1, hfz31_2, hfz31_3⟩ := c4_ BK412.out))
     go_ret
     exact ⟨E_, B_⟩
   ·
    rw [if_neg c14] at H
    have c14b0 : (a0_1 == 41) = false := beq_eq_false_iff_ne.mpr c14
    have c14b1 : (a0_1 != 41) = true := bne_iff_ne.mpr c14
    have c5b9 : (t414.toList == ([60, 105, 110, 105, 116, 62] : List UInt8)) = false := by rw [c14b0] at c5b0; simpa using c5b0
    obtain rfl := Option.some.inj H
    go_enter Tryd.func65, Tryd.ntmps65
    go_wp2_with (first | ((with_reducible refine d_ 2 ?_); refine X_ 2 #[.int .i64 a0_0, .int .i64 a0_1, .int .i64 a0_2, .int .i64 a0_3] 77 ?_; intro gb412 hg w32 hbox hb; have BK412 := Aside0.mk hbox; have GW412 := Aside0.mk (s_ hg); have GE412 := GW412; have HB := bs_ hb; clear hb hbox hg; obtain ⟨hcz33_0, hcz33_1, hcz33_2, hcz33_3, hfz33_0, hfz33_1, hfz33_2, hfz33_3⟩ := c4_ BK412.out) | ((with_reducible refine gt_ 21 ?_); refine gc_ 13 Tryd.func21 #[.slice A1 l1.length c1, .int .i64 a0_2] ?_; (with_reducible refine (pool_Method.calls k _ _ l1 a0_2 t413 t414 t415 t418 t419 t420 t421 _ ?side1 ?side2 A3.out).mono ?_); (case side1 => exact Y_ (Kd.C_below HR1.out HB.out)); (case side2 => exact HC1.out); rintro e w34 ⟨v416, rfl, ho0, hb⟩; refine ⟨_, rfl, ?_⟩; have HO417 := Aside0.mk (Kd.R_lower ho0 (below_size B_)); have BK412 := kb_ BK412 hb; have HB := bs_ hb; (try clear hb); (try clear hb2); (try clear hk); (try clear hi); (try clear ho0)) | ((with_reducible refine d_ 7 ?_); refine X_ 7 #[.slice none 0 0, .bool false, .int .i64 0, .string (⟨#[]⟩ : ByteArray)] 39 ?_; intro gb422 hg w35 hbox hb; have HO417 := rb_ HO417 hb; have BK422 := Aside0.mk hbox; have GW422 := Aside0.mk (s_ hg); have GE422 := GW422; have NB412_422 := Aside0.mk (xx_ hg BK412); have BK412 := kb_ BK412 hb; have NB422_412 := Aside0.mk NB412_422.out.symm; have HB := bs_ hb; clear hb hbox hg; obtain ⟨Ao36, co36, eo36⟩ := Kd.R_slice HO417.out; subst eo36; have hnb37 := NB422_412.out; have hnc37 := NB412_422.out; obtain ⟨hcz38_0, hcz38_1, hcz38_2, hcz38_3, hfz38_0, hfz38_1, hfz38_2, hfz38_3⟩ := c4_ BK422.out; obtain ⟨hcz39_0, hcz39_1, hcz39_2, hcz39_3, hfz39_0, hfz39_1, hfz39_2, hfz39_3⟩ := c4_ BK412.out))
    go_ret
    exact ⟨E_, B_⟩
 ·
  rw [if_neg c4] at H
  have c4b0 : (t421 == 0) = false := beq_eq_false_iff_ne.mpr c4
  have c4b1 : (t421 != 0) = true := bne_iff_ne.mpr c4
  obtain rfl := Option.some.inj H
  go_enter Tryd.func65, Tryd.ntmps65
  go_wp2_with (first | ((with_reducible refine d_ 2 ?_); refine X_ 2 #[.int .i64 a0_0, .int .i64 a0_1, .int .i64 a0_2, .int .i64 a0_3] 77 ?_; intro gb412 hg w40 hbox hb; have BK412 := Aside0.mk hbox; have GW412 := Aside0.mk (s_ hg); have GE412 := GW412; have HB := bs_ hb; clear hb hbox hg; obtain ⟨hcz41_0, hcz41_1, hcz41_2, hcz41_3, hfz41_0, hfz41_1, hfz41_2, hfz41_3⟩ := c4_ BK412.out) | ((with_reducible refine gt_ 21 ?_); refine gc_ 13 Tryd.func21 #[.slice A1 l1.length c1, .int .i64 a0_2] ?_; (with_reducible refine (pool_Method.calls k _ _ l1 a0_2 t413 t414 t415 t418 t419 t420 t421 _ ?side1 ?side2 A3.out).mono ?_); (case side1 => exact Y_ (Kd.C_below HR1.out HB.out)); (case side2 => exact HC1.out); rintro e w42 ⟨v416, rfl, ho0, hb⟩; refine ⟨_, rfl, ?_⟩; have HO417 := Aside0.mk (Kd.R_lower ho0 (below_size B_)); have BK412 := kb_ BK412 hb; have HB := bs_ hb; (try clear hb); (try clear hb2); (try clear hk); (try clear hi); (try clear ho0)) | ((with_reducible refine d_ 7 ?_); refine X_ 7 #[.slice none 0 0, .bool false, .int .i64 0, .string (⟨#[]⟩ : ByteArray)] 39 ?_; intro gb422 hg w43 hbox hb; have HO417 := rb_ HO417 hb; have BK422 := Aside0.mk hbox; have GW422 := Aside0.mk (s_ hg); have GE422 := GW422; have NB412_422 := Aside0.mk (xx_ hg BK412); have BK412 := kb_ BK412 hb; have NB422_412 := Aside0.mk NB412_422.out.symm; have HB := bs_ hb; clear hb hbox hg; obtain ⟨Ao44, co44, eo44⟩ := Kd.R_slice HO417.out; subst eo44; have hnb45 := NB422_412.out; have hnc45 := NB412_422.out; obtain ⟨hcz46_0, hcz46_1, hcz46_2, hcz46_3, hfz46_0, hfz46_1, hfz46_2, hfz46_3⟩ := c4_ BK422.out))
  go_ret
  exact ⟨E_, B_⟩
def desc_Number.f (a0_0 : Int) (a0_1 : ByteArray) : Option (Bool) := some (a0_0 == 0 && (a0_1.toList == ([] : List UInt8)))
set_option maxHeartbeats 8000000 in
set_option maxRecDepth 100000 in
theorem desc_Number.calls (a0_0 : Int) (a0_1 : ByteArray) (r : Bool) (w : World) (h : desc_Number.f a0_0 a0_1 = some r) :
 Calls Tryd.prog 100 #[.agg #[.int .i64 a0_0, .string a0_1]] w fun e w' => e = .returned (.bool r) ∧ Below w.heap.size w w' := by
 have hu34 := Tryd.underlying34
 have HB := Aside0.mk (Below.refl w.heap.size w)
 have H : (some (a0_0 == 0 && (a0_1.toList == ([] : List UInt8)))) = some r := h
 clear h
 obtain rfl := Option.some.inj H
 go_enter Tryd.func100, Tryd.ntmps100
 go_wp2_with (first | ((with_reducible refine d_ 1 ?_); refine X_ 1 #[.int .i64 a0_0, .string a0_1] 34 ?_; intro gb423 hg w2 hbox hb; have BK423 := Aside0.mk hbox; have GW423 := Aside0.mk (s_ hg); have GE423 := GW423; have HB := bs_ hb; clear hb hbox hg; obtain ⟨hcz3_0, hcz3_1, hfz3_0, hfz3_1⟩ := c2_ BK423.out))
 go_ret
 exact ⟨E_, B_⟩
mutual
def instr_asks.j0 : Nat → List (S50) → Int → Int → Bool → Int → Int → Int → Int → Option (Int)
 | 0, _, _, _, _, _, _, _, _ => none
 | k + 1, x1, x6, x8, x27, x425000, x425001, x425002, x425003 => if x27 = true then ((pool_Field.f k x1 x425002).bind fun bt430 => (some bt430.2.2.2.2)) else (if x8 = 30 then ((pool_Type.f k x1 x425002).bind fun bt435 => (if bt435.2.2 = 0 then (if bt435.1 = 8 then (some 15) else (some bt435.2.2)) else (some bt435.2.2))) else (if x8 = 36 then (instr_asks.j1 k x1 x6 (x8 == 36) x425000 x425001 x425002 x425003) else (instr_asks.j1 k x1 x6 (x8 == 37) x425000 x425001 x425002 x425003)))
def instr_asks.j1 : Nat → List (S50) → Int → Bool → Int → Int → Int → Int → Option (Int)
 | 0, _, _, _, _, _, _, _ => none
 | k + 1, x1, x6, x57, x425000, x425001, x425002, x425003 => if x57 = true then ((pool_Type.f k x1 x425002).bind fun bt438 => (if bt438.2.2 = 0 then ((desc_Number.f bt438.1 bt438.2.1).bind fun t441 => (if t441 = true then (some 15) else (some bt438.2.2))) else (some bt438.2.2))) else (some x6)
end
def instr_asks.f (k : Nat) (a0_0 : Int) (a0_1 : Int) (a0_2 : Int) (a0_3 : Int) (l1 : List (S50)) : Option (Int) := if a0_1 = 1 then ((pool_Number.f k l1 a0_2).bind fun bt426 => (some bt426.2)) else (if a0_1 = 25 then ((pool_Class.f k l1 a0_2).bind fun bt428 => (some bt428.2)) else (if a0_1 = 26 then (instr_asks.j0 k l1 0 a0_1 (a0_1 == 26) a0_0 a0_1 a0_2 a0_3) else (if a0_1 = 27 then (instr_asks.j0 k l1 0 a0_1 (a0_1 == 27) a0_0 a0_1 a0_2 a0_3) else (if a0_1 = 28 then (instr_asks.j0 k l1 0 a0_1 (a0_1 == 28) a0_0 a0_1 a0_2 a0_3) else (instr_asks.j0 k l1 0 a0_1 (a0_1 == 29) a0_0 a0_1 a0_2 a0_3)))))
theorem instr_asks.mono_l : ∀ k, (∀ y0 y1 y2 y3 y4 y5 y6 y7, LeO (instr_asks.j0 k y0 y1 y2 y3 y4 y5 y6 y7) (instr_asks.j0 (k + 1) y0 y1 y2 y3 y4 y5 y6 y7)) ∧ (∀ y0 y1 y2 y3 y4 y5 y6, LeO (instr_asks.j1 k y0 y1 y2 y3 y4 y5 y6) (instr_asks.j1 (k + 1) y0 y1 y2 y3 y4 y5 y6))
 | 0 => ⟨fun _ _ _ _ _ _ _ _ r h => by simp [instr_asks.j0] at h, fun _ _ _ _ _ _ _ r h => by simp [instr_asks.j1] at h⟩
 | k + 1 => by
  obtain ⟨ih0, ih1⟩ := instr_asks.mono_l k
  refine ⟨?_, ?_⟩
  ·
   intro y0 y1 y2 y3 y4 y5 y6 y7
   unfold instr_asks.j0
   repeat' first
   | (with_reducible exact ih0 _ _ _ _ _ _ _ _)
   | (with_reducible exact ih1 _ _ _ _ _ _ _)
   | (with_reducible exact pool_Class.mono _ _ _)
   | (with_reducible exact pool_Field.mono _ _ _)
   | (with_reducible exact pool_Number.mono _ _ _)
   | (with_reducible exact pool_Type.mono _ _ _)
   | (with_reducible exact LeO.refl _)
   | (with_reducible exact LeO.none _)
   | (with_reducible refine LeO.ite ?_ ?_)
   | (with_reducible refine LeO.bind ?_ (fun _ => ?_))
   | exact ih0 _ _ _ _ _ _ _ _
   | exact ih1 _ _ _ _ _ _ _
   | exact pool_Class.mono _ _ _
   | exact pool_Field.mono _ _ _
   | exact pool_Number.mono _ _ _
   | exact pool_Type.mono _ _ _
   | exact LeO.none _
   | refine LeO.ite ?_ ?_
   | refine LeO.bind ?_ (fun _ => ?_)
  ·
   intro y0 y1 y2 y3 y4 y5 y6
   unfold instr_asks.j1
   repeat' first
   | (with_reducible exact ih0 _ _ _ _ _ _ _ _)
   | (with_reducible exact ih1 _ _ _ _ _ _ _)
   | (with_reducible exact pool_Class.mono _ _ _)
   | (with_reducible exact pool_Field.mono _ _ _)
   | (with_reducible exact pool_Number.mono _ _ _)
   | (with_reducible exact pool_Type.mono _ _ _)
   | (with_reducible exact LeO.refl _)
   | (with_reducible exact LeO.none _)
   | (with_reducible refine LeO.ite ?_ ?_)
   | (with_reducible refine LeO.bind ?_ (fun _ => ?_))
   | exact ih0 _ _ _ _ _ _ _ _
   | exact ih1 _ _ _ _ _ _ _
   | exact pool_Class.mono _ _ _
   | exact pool_Field.mono _ _ _
   | exact pool_Number.mono _ _ _
   | exact pool_Type.mono _ _ _
   | exact LeO.none _
   | refine LeO.ite ?_ ?_
   | refine LeO.bind ?_ (fun _ => ?_)
theorem instr_asks.mono : ∀ a0 a1 a2 a3 a4 k, LeO (instr_asks.f k a0 a1 a2 a3 a4) (instr_asks.f (k + 1) a0 a1 a2 a3 a4) := by
 intro a0 a1 a2 a3 a4 k
 obtain ⟨ih0, ih1⟩ := instr_asks.mono_l k
 unfold instr_asks.f
 repeat' first
  | (with_reducible exact ih0 _ _ _ _ _ _ _ _)
  | (with_reducible exact ih1 _ _ _ _ _ _ _)
  | (with_reducible exact pool_Class.mono _ _ _)
  | (with_reducible exact pool_Field.mono _ _ _)
  | (with_reducible exact pool_Number.mono _ _ _)
  | (with_reducible exact pool_Type.mono _ _ _)
  | (with_reducible exact LeO.refl _)
  | (with_reducible exact LeO.none _)
  | (with_reducible refine LeO.ite ?_ ?_)
  | (with_reducible refine LeO.bind ?_ (fun _ => ?_))
  | exact ih0 _ _ _ _ _ _ _ _
  | exact ih1 _ _ _ _ _ _ _
  | exact pool_Class.mono _ _ _
  | exact pool_Field.mono _ _ _
  | exact pool_Number.mono _ _ _
  | exact pool_Type.mono _ _ _
  | exact LeO.none _
  | refine LeO.ite ?_ ?_
  | refine LeO.bind ?_ (fun _ => ?_)
set_option maxHeartbeats 8000000 in
set_option maxRecDepth 100000 in
theorem instr_asks.calls (k : Nat) (a0_0 : Int) (a0_1 : Int) (a0_2 : Int) (a0_3 : Int) (A1 : Option Addr) (c1 : Nat) (l1 : List (S50)) (r : Int) (w : World) (hr1 : Kd.C k50 w A1 l1.length l1) (hc1 : l1.length ≤ c1) (h : instr_asks.f k a0_0 a0_1 a0_2 a0_3 l1 = some r) :
 Calls Tryd.prog 66 #[.agg #[.int .i64 a0_0, .int .i64 a0_1, .int .i64 a0_2, .int .i64 a0_3], .slice A1 l1.length c1] w fun e w' => e = .returned (.int .i64 r) ∧ Below w.heap.size w w' := by
 have hu77 := Tryd.underlying77
 have hu34 := Tryd.underlying34
 have HR1 := Aside0.mk hr1
 have HC1 := Aside0.mk hc1
 clear hr1 hc1
 have HB := Aside0.mk (Below.refl w.heap.size w)
 have H : (if a0_1 = 1 then ((pool_Number.f k l1 a0_2).bind fun bt426 => (some bt426.2)) else (if a0_1 = 25 then ((pool_Class.f k l1 a0_2).bind fun bt428 => (some bt428.2)) else (if a0_1 = 26 then (instr_asks.j0 k l1 0 a0_1 (a0_1 == 26) a0_0 a0_1 a0_2 a0_3) else (if a0_1 = 27 then (instr_asks.j0 k l1 0 a0_1 (a0_1 == 27) a0_0 a0_1 a0_2 a0_3) else (if a0_1 = 28 then (instr_asks.j0 k l1 0 a0_1 (a0_1 == 28) a0_0 a0_1 a0_2 a0_3) else (instr_asks.j0 k l1 0 a0_1 (a0_1 == 29) a0_0 a0_1 a0_2 a0_3)))))) = some r := h
 clear h
 by_cases c3 : a0_1 = 1
 ·
  rw [if_pos c3] at H
  have c3b0 : (a0_1 == 1) = true := beq_iff_eq.mpr c3
  have c3b1 : (a0_1 != 1) = false := bne_eq_false_iff_eq.mpr c3
  clear c3
  replace H := Option.bind_eq_some_iff.mp H
  obtain ⟨⟨t426, t427⟩, A40, H⟩ := H
  replace H : (some t427) = some r := H
  have A4 := Aside0.mk A40
  clear A40
  obtain rfl := Option.some.inj H
  go_enter Tryd.func66, Tryd.ntmps66
  go_wp2_with (first | ((with_reducible refine d_ 2 ?_); refine X_ 2 #[.int .i64 a0_0, .int .i64 a0_1, .int .i64 a0_2, .int .i64 a0_3] 77 ?_; intro gb424 hg w5 hbox hb; have BK424 := Aside0.mk hbox; have GW424 := Aside0.mk (s_ hg); have GE424 := GW424; have HB := bs_ hb; clear hb hbox hg) | ((with_reducible refine d_ 5 ?_); refine X_ 5 #[.int .i64 0, .string (⟨#[]⟩ : ByteArray)] 34 ?_; intro gb425 hg w6 hbox hb; have BK425 := Aside0.mk hbox; have GW425 := Aside0.mk (s_ hg); have GE425 := GW425; have NB424_425 := Aside0.mk (xx_ hg BK424); have BK424 := kb_ BK424 hb; have NB425_424 := Aside0.mk NB424_425.out.symm; have HB := bs_ hb; clear hb hbox hg; have hnb7 := NB424_425.out; have hnc7 := NB425_424.out; obtain ⟨hcz8_0, hcz8_1, hcz8_2, hcz8_3, hfz8_0, hfz8_1, hfz8_2, hfz8_3⟩ := c4_ BK424.out) | ((with_reducible refine gt_ 24 ?_); refine gd_ 15 Tryd.func24 (pool_Number.calls k _ _ l1 a0_2 t426 t427 _ (Y_ (Kd.C_below HR1.out HB.out)) HC1.out A4.out) ?_; intro w9 hb; have BK424 := kb_ BK424 hb; have BK425 := kb_ BK425 hb; have HB := bs_ hb; (try clear hb); (try clear hb2); (try clear hk); (try clear hi)))
  go_ret
  exact ⟨E_, B_⟩
 ·
  rw [if_neg c3] at H
  have c3b0 : (a0_1 == 1) = false := beq_eq_false_iff_ne.mpr c3
  have c3b1 : (a0_1 != 1) = true := bne_iff_ne.mpr c3
  by_cases c10 : a0_1 = 25
  ·
   rw [if_pos c10] at H
   have c10b0 : (a0_1 == 25) = true := beq_iff_eq.mpr c10
   have c10b1 : (a0_1 != 25) = false := bne_eq_false_iff_eq.mpr c10
   clear c10
   replace H := Option.bind_eq_some_iff.mp H
   obtain ⟨⟨t428, t429⟩, A110, H⟩ := H
   replace H : (some t429) = some r := H
   have A11 := Aside0.mk A110
   clear A110
   obtain rfl := Option.some.inj H
   go_enter Tryd.func66, Tryd.ntmps66
   go_wp2_with (first | ((with_reducible refine d_ 2 ?_); refine X_ 2 #[.int .i64 a0_0, .int .i64 a0_1, .int .i64 a0_2, .int .i64 a0_3] 77 ?_; intro gb424 hg w12 hbox hb; have BK424 := Aside0.mk hbox; have GW424 := Aside0.mk (s_ hg); have GE424 := GW424; have HB := bs_ hb; clear hb hbox hg) | ((with_reducible refine d_ 5 ?_); refine X_ 5 #[.int .i64 0, .string (⟨#[]⟩ : ByteArray)] 34 ?_; intro gb425 hg w13 hbox hb; have BK425 := Aside0.mk hbox; have GW425 := Aside0.mk (s_ hg); have GE425 := GW425; have NB424_425 := Aside0.mk (xx_ hg BK424); have BK424 := kb_ BK424 hb; have NB425_424 := Aside0.mk NB424_425.out.symm; have HB := bs_ hb; clear hb hbox hg; have hnb14 := NB424_425.out; have hnc14 := NB425_424.out; obtain ⟨hcz15_0, hcz15_1, hcz15_2, hcz15_3, hfz15_0, hfz15_1, hfz15_2, hfz15_3⟩ := c4_ BK424.out) | ((with_reducible refine gt_ 19 ?_); refine gd_ 24 Tryd.func19 (pool_Class.calls k _ _ l1 a0_2 t428 t429 _ (Y_ (Kd.C_below HR1.out HB.out)) HC1.out A11.out) ?_; intro w16 hb; have BK424 := kb_ BK424 hb; have BK425 := kb_ BK425 hb; have HB := bs_ hb; (try clear hb); (try clear hb2); (try clear hk); (try clear hi)))
   go_ret
   exact ⟨E_, B_⟩
  ·
   rw [if_neg c10] at H
   have c10b0 : (a0_1 == 25) = false := beq_eq_false_iff_ne.mpr c10
   have c10b1 : (a0_1 != 25) = true := bne_iff_ne.mpr c10
   have HC17 := Aside0.mk H
   clear H
   go_enter Tryd.func66, Tryd.ntmps66
   go_upto_if 27 with (first | ((with_reducible refine d_ 2 ?_); refine X_ 2 #[.int .i64 a0_0, .int .i64 a0_1, .int .i64 a0_2, .int .i64 a0_3] 77 ?_; intro gb424 hg w18 hbox hb; have BK424 := Aside0.mk hbox; have GW424 := Aside0.mk (s_ hg); have GE424 := GW424; have HB := bs_ hb; clear hb hbox hg) | ((with_reducible refine d_ 5 ?_); refine X_ 5 #[.int .i64 0, .string (⟨#[]⟩ : ByteArray)] 34 ?_; intro gb425 hg w19 hbox hb; have BK425 := Aside0.mk hbox; have GW425 := Aside0.mk (s_ hg); have GE425 := GW425; have NB424_425 := Aside0.mk (xx_ hg BK424); have BK424 := kb_ BK424 hb; have NB425_424 := Aside0.mk NB424_425.out.symm; have HB := bs_ hb; clear hb hbox hg; have hnb20 := NB424_425.out; have hnc20 := NB425_424.out; obtain ⟨hcz21_0, hcz21_1, hcz21_2, hcz21_3, hfz21_0, hfz21_1, hfz21_2, hfz21_3⟩ := c4_ BK424.out))
   (try simp only [Act.put, List.setIfInBounds_toArray, List.set_cons_zero, List.set_cons_succ])
   go_cut [27] (fun v27 wc => ∃ (kq : Nat) (x27_16 : Bool), v27 = .bool x27_16 ∧ Aside0 (instr_asks.j0 kq l1 0 a0_1 x27_16 a0_0 a0_1 a0_2 a0_3 = some r) ∧ Aside0 (kq ≤ k) ∧ Aside0 (wc.heap[gb424]? = some (.cells #[.int .i64 a0_0, .int .i64 a0_1, .int .i64 a0_2, .int .i64 a0_3] 77 (0, 0))) ∧ Aside0 (wc.heap[gb425]? = some (.cells #[.int .i64 0, .string (⟨#[]⟩ : ByteArray)] 34 (0, 0))) ∧ Aside0 (Below w.heap.size w wc))
   case first =>
    have H := HC17.out
    clear HC17
    by_cases c22 : a0_1 = 26
    ·
     rw [if_pos c22] at H
     have c22b0 : (a0_1 == 26) = true := beq_iff_eq.mpr c22
     have c22b1 : (a0_1 != 26) = false := bne_eq_false_iff_eq.mpr c22
     clear c22
     (first | rw [c22b0] | (simp only [i64_w, i32_w]; rw [c22b0]) | skip)
     have H' := Aside0.mk H
     clear H
     go_wp2
     go_meet
     case rel => exact ⟨_, ((a0_1 == 26)), R_, H', ⟨by first | omega | exact Nat.le_refl _⟩, ⟨M_⟩, ⟨M_⟩, ⟨B_⟩⟩
    ·
     rw [if_neg c22] at H
     have c22b0 : (a0_1 == 26) = false := beq_eq_false_iff_ne.mpr c22
     have c22b1 : (a0_1 != 26) = true := bne_iff_ne.mpr c22
     (first | rw [c22b0] | (simp only [i64_w, i32_w]; rw [c22b0]) | skip)
     by_cases c23 : a0_1 = 27
     ·
      rw [if_pos c23] at H
      have c23b0 : (a0_1 == 27) = true := beq_iff_eq.mpr c23
      have c23b1 : (a0_1 != 27) = false := bne_eq_false_iff_eq.mpr c23
      clear c23
      have H' := Aside0.mk H
      clear H
      go_wp2
      go_meet
      case rel => exact ⟨_, ((a0_1 == 27)), R_, H', ⟨by first | omega | exact Nat.le_refl _⟩, ⟨M_⟩, ⟨M_⟩, ⟨B_⟩⟩
     ·
      rw [if_neg c23] at H
      have c23b0 : (a0_1 == 27) = false := beq_eq_false_iff_ne.mpr c23
      have c23b1 : (a0_1 != 27) = true := bne_iff_ne.mpr c23
      by_cases c24 : a0_1 = 28
      ·
       rw [if_pos c24] at H
       have c24b0 : (a0_1 == 28) = true := beq_iff_eq.mpr c24
       have c24b1 : (a0_1 != 28) = false := bne_eq_false_iff_eq.mpr c24
       clear c24
       have H' := Aside0.mk H
       clear H
       go_wp2
       go_meet
       case rel => exact ⟨_, ((a0_1 == 28)), R_, H', ⟨by first | omega | exact Nat.le_refl _⟩, ⟨M_⟩, ⟨M_⟩, ⟨B_⟩⟩
      ·
       rw [if_neg c24] at H
       have c24b0 : (a0_1 == 28) = false := beq_eq_false_iff_ne.mpr c24
       have c24b1 : (a0_1 != 28) = true := bne_iff_ne.mpr c24
       have H' := Aside0.mk H
       clear H
       go_wp2
       go_meet
       case rel => exact ⟨_, ((a0_1 == 29)), R_, H', ⟨by first | omega | exact Nat.le_refl _⟩, ⟨M_⟩, ⟨M_⟩, ⟨B_⟩⟩
   case rest =>
    clear HC17 c3 c3b0 c3b1 c10 c10b0 c10b1 hcz21_0 hcz21_1 hcz21_2 hcz21_3 hfz21_0 hfz21_1 hfz21_2 hfz21_3
    obtain ⟨kq, x27_16, rfl, HA, HJ16, BK424, BK425, HB⟩ := hcut
    cases kq with
    | zero => exact absurd HA.out (by simp [instr_asks.j0])
    | succ kj16 =>
     have H := HA.out
     clear HA
     simp only [instr_asks.j0] at H
     by_cases c25 : x27_16 = true
     ·
      subst c25
      have H1 : ((pool_Field.f kj16 l1 a0_2).bind fun bt430 => (some bt430.2.2.2.2)) = some r := by rw [if_pos rfl] at H; exact H
      clear H
      have H := H1
      clear H1
      replace H := Option.bind_eq_some_iff.mp H
      obtain ⟨⟨t430, t431, t432, t433, t434⟩, A260, H⟩ := H
      replace H : (some t434) = some r := H
      have A26 := Aside0.mk A260
      clear A260
      obtain rfl := Option.some.inj H
      have hnb27 := NB424_425.out
      have hnc27 := NB425_424.out
      obtain ⟨hcz28_0, hcz28_1, hcz28_2, hcz28_3, hfz28_0, hfz28_1, hfz28_2, hfz28_3⟩ := c4_ BK424.out
      go_wp2_with (first | ((with_reducible refine gt_ 20 ?_); refine gd_ 36 Tryd.func20 (pool_Field.calls kj16 _ _ l1 a0_2 t430 t431 t432 t433 t434 _ (Y_ (Kd.C_below HR1.out HB.out)) HC1.out A26.out) ?_; intro w29 hb; have BK424 := kb_ BK424 hb; have BK425 := kb_ BK425 hb; have HB := bs_ hb; (try clear hb); (try clear hb2); (try clear hk); (try clear hi)))
      go_ret
      exact ⟨E_, B_⟩
     ·
      replace c25 := Bool.eq_false_iff.mpr c25
      subst c25
      have H1 : (if a0_1 = 30 then ((pool_Type.f kj16 l1 a0_2).bind fun bt435 => (if bt435.2.2 = 0 then (if bt435.1 = 8 then (some 15) else (some bt435.2.2)) else (some bt435.2.2))) else (if a0_1 = 36 then (instr_asks.j1 kj16 l1 0 (a0_1 == 36) a0_0 a0_1 a0_2 a0_3) else (instr_asks.j1 kj16 l1 0 (a0_1 == 37) a0_0 a0_1 a0_2 a0_3))) = some r := by rw [if_neg (show ¬ (false = true) by decide)] at H; exact H
      clear H
      have H := H1
      clear H1
      by_cases c30 : a0_1 = 30
      ·
       rw [if_pos c30] at H
       have c30b0 : (a0_1 == 30) = true := beq_iff_eq.mpr c30
       have c30b1 : (a0_1 != 30) = false := bne_eq_false_iff_eq.mpr c30
       clear c30
       replace H := Option.bind_eq_some_iff.mp H
       obtain ⟨⟨t435, t436, t437⟩, A310, H⟩ := H
       replace H : (if t437 = 0 then (if t435 = 8 then (some 15) else (some t437)) else (some t437)) = some r := H
       have A31 := Aside0.mk A310
       clear A310
       by_cases c32 : t437 = 0
       ·
        rw [if_pos c32] at H
        have c32b0 : (t437 == 0) = true := beq_iff_eq.mpr c32
        have c32b1 : (t437 != 0) = false := bne_eq_false_iff_eq.mpr c32
        clear c32
        by_cases c33 : t435 = 8
        ·
         rw [if_pos c33] at H
         have c33b0 : (t435 == 8) = true := beq_iff_eq.mpr c33
         have c33b1 : (t435 != 8) = false := bne_eq_false_iff_eq.mpr c33
         clear c33
         obtain rfl := Option.some.inj H
         have hnb34 := NB424_425.out
         have hnc34 := NB425_424.out
         obtain ⟨hcz35_0, hcz35_1, hcz35_2, hcz35_3, hfz35_0, hfz35_1, hfz35_2, hfz35_3⟩ := c4_ BK424.out
         go_wp2_with (first | ((with_reducible refine gt_ 25 ?_); refine gd_ 47 Tryd.func25 (pool_Type.calls kj16 _ _ l1 a0_2 t435 t436 t437 _ (Y_ (Kd.C_below HR1.out HB.out)) HC1.out A31.out) ?_; intro w36 hb; have BK424 := kb_ BK424 hb; have BK425 := kb_ BK425 hb; have HB := bs_ hb; (try clear hb); (try clear hb2); (try clear hk); (try clear hi); obtain ⟨hcz37_0, hcz37_1, hfz37_0, hfz37_1⟩ := c2_ BK425.out))
         go_ret
         exact ⟨E_, B_⟩
        ·
         rw [if_neg c33] at H
         have c33b0 : (t435 == 8) = false := beq_eq_false_iff_ne.mpr c33
         have c33b1 : (t435 != 8) = true := bne_iff_ne.mpr c33
         obtain rfl := Option.some.inj H
         have hnb38 := NB424_425.out
         have hnc38 := NB425_424.out
         obtain ⟨hcz39_0, hcz39_1, hcz39_2, hcz39_3, hfz39_0, hfz39_1, hfz39_2, hfz39_3⟩ := c4_ BK424.out
         go_wp2_with (first | ((with_reducible refine gt_ 25 ?_); refine gd_ 47 Tryd.func25 (pool_Type.calls kj16 _ _ l1 a0_2 t435 t436 t437 _ (Y_ (Kd.C_below HR1.out HB.out)) HC1.out A31.out) ?_; intro w40 hb; have BK424 := kb_ BK424 hb; have BK425 := kb_ BK425 hb; have HB := bs_ hb; (try clear hb); (try clear hb2); (try clear hk); (try clear hi); obtain ⟨hcz41_0, hcz41_1, hfz41_0, hfz41_1⟩ := c2_ BK425.out))
         go_ret
         exact ⟨E_, B_⟩
       ·
        rw [if_neg c32] at H
        have c32b0 : (t437 == 0) = false := beq_eq_false_iff_ne.mpr c32
        have c32b1 : (t437 != 0) = true := bne_iff_ne.mpr c32
        obtain rfl := Option.some.inj H
        have hnb42 := NB424_425.out
        have hnc42 := NB425_424.out
        obtain ⟨hcz43_0, hcz43_1, hcz43_2, hcz43_3, hfz43_0, hfz43_1, hfz43_2, hfz43_3⟩ := c4_ BK424.out
        go_wp2_with (first | ((with_reducible refine gt_ 25 ?_); refine gd_ 47 Tryd.func25 (pool_Type.calls kj16 _ _ l1 a0_2 t435 t436 t437 _ (Y_ (Kd.C_below HR1.out HB.out)) HC1.out A31.out) ?_; intro w44 hb; have BK424 := kb_ BK424 hb; have BK425 := kb_ BK425 hb; have HB := bs_ hb; (try clear hb); (try clear hb2); (try clear hk); (try clear hi); obtain ⟨hcz45_0, hcz45_1, hfz45_0, hfz45_1⟩ := c2_ BK425.out))
        go_ret
        exact ⟨E_, B_⟩
      ·
       rw [if_neg c30] at H
       have c30b0 : (a0_1 == 30) = false := beq_eq_false_iff_ne.mpr c30
       have c30b1 : (a0_1 != 30) = true := bne_iff_ne.mpr c30
       have HC46 := Aside0.mk H
       clear H
       go_upto_if 57 with (fail)
       go_cut [57] (fun v57 wc => ∃ (kq : Nat) (x57_45 : Bool), v57 = .bool x57_45 ∧ Aside0 (instr_asks.j1 kq l1 0 x57_45 a0_0 a0_1 a0_2 a0_3 = some r) ∧ Aside0 (kq ≤ kj16) ∧ Aside0 (wc.heap[gb424]? = some (.cells #[.int .i64 a0_0, .int .i64 a0_1, .int .i64 a0_2, .int .i64 a0_3] 77 (0, 0))) ∧ Aside0 (wc.heap[gb425]? = some (.cells #[.int .i64 0, .string (⟨#[]⟩ : ByteArray)] 34 (0, 0))) ∧ Aside0 (Below w.heap.size w wc))
       case first =>
        have H := HC46.out
        clear HC46
        by_cases c47 : a0_1 = 36
        ·
         rw [if_pos c47] at H
         have c47b0 : (a0_1 == 36) = true := beq_iff_eq.mpr c47
         have c47b1 : (a0_1 != 36) = false := bne_eq_false_iff_eq.mpr c47
         clear c47
         (first | rw [c47b0] | (simp only [i64_w, i32_w]; rw [c47b0]) | skip)
         have H' := Aside0.mk H
         clear H
         go_wp2
         go_meet
         case rel => exact ⟨_, ((a0_1 == 36)), R_, H', ⟨by have := HJ16.out; first | omega | exact Nat.le_refl _⟩, ⟨M_⟩, ⟨M_⟩, ⟨B_⟩⟩
        ·
         rw [if_neg c47] at H
         have c47b0 : (a0_1 == 36) = false := beq_eq_false_iff_ne.mpr c47
         have c47b1 : (a0_1 != 36) = true := bne_iff_ne.mpr c47
         (first | rw [c47b0] | (simp only [i64_w, i32_w]; rw [c47b0]) | skip)
         have H' := Aside0.mk H
         clear H
         go_wp2
         go_meet
         case rel => exact ⟨_, ((a0_1 == 37)), R_, H', ⟨by have := HJ16.out; first | omega | exact Nat.le_refl _⟩, ⟨M_⟩, ⟨M_⟩, ⟨B_⟩⟩
       case rest =>
        clear HC46 c30 c30b0 c30b1
        obtain ⟨kq, x57_45, rfl, HA, HJ45, BK424, BK425, HB⟩ := hcut
        cases kq with
        | zero => exact absurd HA.out (by simp [instr_asks.j1])
        | succ kj45 =>
         have H := HA.out
         clear HA
         simp only [instr_asks.j1] at H
         by_cases c48 : x57_45 = true
         ·
          subst c48
          have H1 : ((pool_Type.f kj45 l1 a0_2).bind fun bt438 => (if bt438.2.2 = 0 then ((desc_Number.f bt438.1 bt438.2.1).bind fun t441 => (if t441 = true then (some 15) else (some bt438.2.2))) else (some bt438.2.2))) = some r := by rw [if_pos rfl] at H; exact H
          clear H
          have H := H1
          clear H1
          replace H := Option.bind_eq_some_iff.mp H
          obtain ⟨⟨t438, t439, t440⟩, A490, H⟩ := H
          replace H : (if t440 = 0 then ((desc_Number.f t438 t439).bind fun t441 => (if t441 = true then (some 15) else (some t440))) else (some t440)) = some r := H
          have A49 := Aside0.mk A490
          clear A490
          by_cases c50 : t440 = 0
          ·
           rw [if_pos c50] at H
           have c50b0 : (t440 == 0) = true := beq_iff_eq.mpr c50
           have c50b1 : (t440 != 0) = false := bne_eq_false_iff_eq.mpr c50
           clear c50
           replace H := Option.bind_eq_some_iff.mp H
           obtain ⟨t441, A510, H⟩ := H
           replace H : (if t441 = true then (some 15) else (some t440)) = some r := H
           have A51 := Aside0.mk A510
           clear A510
           by_cases c52 : t441 = true
           ·
            subst c52
            have H1 : (some 15) = some r := by rw [if_pos rfl] at H; exact H
            clear H
            have H := H1
            clear H1
            obtain rfl := Option.some.inj H
            have hnb53 := NB424_425.out
            have hnc53 := NB425_424.out
            obtain ⟨hcz54_0, hcz54_1, hcz54_2, hcz54_3, hfz54_0, hfz54_1, hfz54_2, hfz54_3⟩ := c4_ BK424.out
            go_wp2_with (first | ((with_reducible refine gt_ 25 ?_); refine gd_ 64 Tryd.func25 (pool_Type.calls kj45 _ _ l1 a0_2 t438 t439 t440 _ (Y_ (Kd.C_below HR1.out HB.out)) HC1.out A49.out) ?_; intro w55 hb; have BK424 := kb_ BK424 hb; have BK425 := kb_ BK425 hb; have HB := bs_ hb; (try clear hb); (try clear hb2); (try clear hk); (try clear hi); obtain ⟨hcz56_0, hcz56_1, hfz56_0, hfz56_1⟩ := c2_ BK425.out) | (go_at_call 100; (with_reducible refine (desc_Number.calls t438 t439 true _ A51.out).mono ?_); rintro e w57 ⟨rfl, hb⟩; have BK424 := Aside0.mk (blk_below (g := gb424) (o := .cells #[.int .i64 a0_0, .int .i64 a0_1, .int .i64 a0_2, .int .i64 a0_3] 77 (0, 0)) P_ hb); have BK425 := Aside0.mk (blk_below (g := gb425) (o := .cells #[.int .i64 t438, .string t439] 34 (0, 0)) P_ hb); have HB := bs_ hb; (try clear hb); (try clear hb2); (try clear hk); (try clear hi)))
            go_ret
            exact ⟨E_, B_⟩
           ·
            replace c52 := Bool.eq_false_iff.mpr c52
            subst c52
            have H1 : (some t440) = some r := by rw [if_neg (show ¬ (false = true) by decide)] at H; exact H
            clear H
            have H := H1
            clear H1
            obtain rfl := Option.some.inj H
            have hnb58 := NB424_425.out
            have hnc58 := NB425_424.out
            obtain ⟨hcz59_0, hcz59_1, hcz59_2, hcz59_3, hfz59_0, hfz59_1, hfz59_2, hfz59_3⟩ := c4_ BK424.out
            go_wp2_with (first | ((with_reducible refine gt_ 25 ?_); refine gd_ 64 Tryd.func25 (pool_Type.calls kj45 _ _ l1 a0_2 t438 t439 t440 _ (Y_ (Kd.C_below HR1.out HB.out)) HC1.out A49.out) ?_; intro w60 hb; have BK424 := kb_ BK424 hb; have BK425 := kb_ BK425 hb; have HB := bs_ hb; (try clear hb); (try clear hb2); (try clear hk); (try clear hi); obtain ⟨hcz61_0, hcz61_1, hfz61_0, hfz61_1⟩ := c2_ BK425.out) | (go_at_call 100; (with_reducible refine (desc_Number.calls t438 t439 false _ A51.out).mono ?_); rintro e w62 ⟨rfl, hb⟩; have BK424 := Aside0.mk (blk_below (g := gb424) (o := .cells #[.int .i64 a0_0, .int .i64 a0_1, .int .i64 a0_2, .int .i64 a0_3] 77 (0, 0)) P_ hb); have BK425 := Aside0.mk (blk_below (g := gb425) (o := .cells #[.int .i64 t438, .string t439] 34 (0, 0)) P_ hb); have HB := bs_ hb; (try clear hb); (try clear hb2); (try clear hk); (try clear hi)))
            go_ret
            exact ⟨E_, B_⟩
          ·
           rw [if_neg c50] at H
           have c50b0 : (t440 == 0) = false := beq_eq_false_iff_ne.mpr c50
           have c50b1 : (t440 != 0) = true := bne_iff_ne.mpr c50
           obtain rfl := Option.some.inj H
           have hnb63 := NB424_425.out
           have hnc63 := NB425_424.out
           obtain ⟨hcz64_0, hcz64_1, hcz64_2, hcz64_3, hfz64_0, hfz64_1, hfz64_2, hfz64_3⟩ := c4_ BK424.out
           go_wp2_with (first | ((with_reducible refine gt_ 25 ?_); refine gd_ 64 Tryd.func25 (pool_Type.calls kj45 _ _ l1 a0_2 t438 t439 t440 _ (Y_ (Kd.C_below HR1.out HB.out)) HC1.out A49.out) ?_; intro w65 hb; have BK424 := kb_ BK424 hb; have BK425 := kb_ BK425 hb; have HB := bs_ hb; (try clear hb); (try clear hb2); (try clear hk); (try clear hi); obtain ⟨hcz66_0, hcz66_1, hfz66_0, hfz66_1⟩ := c2_ BK425.out))
           go_ret
           exact ⟨E_, B_⟩
         ·
          replace c48 := Bool.eq_false_iff.mpr c48
          subst c48
          have H1 : (some 0) = some r := by rw [if_neg (show ¬ (false = true) by decide)] at H; exact H
          clear H
          have H := H1
          clear H1
          obtain rfl := Option.some.inj H
          go_wp2
          go_ret
          exact ⟨E_, B_⟩
mutual
def instr_Check.l0 : Nat → List (S50) → Int → List (S77) → Int → List Bool → List (S77) → Int → Int → Option (Int × Int)
 | 0, _, _, _, _, _, _, _, _ => none
 | k + 1, x1, x2, x8, x10, x11, x37, x38, x39 => if x39 < x38 then (if 0 ≤ x39 then (if x39 < (x37.length : Int) then (if 0 ≤ ((rd_T77 x37 x39).f0) then (if ((rd_T77 x37 x39).f0) < (x11.length : Int) then (instr_Check.l0 k x1 x2 x8 x10 (x11.set (((rd_T77 x37 x39).f0) : Int).toNat true) x37 x38 (wrap64 (x39 + 1))) else (none)) else (none)) else (none)) else (none)) else (instr_Check.l1 k x1 x2 x10 x11 x8 (x8.length : Int) 0)
def instr_Check.l1 : Nat → List (S50) → Int → Int → List Bool → List (S77) → Int → Int → Option (Int × Int)
 | 0, _, _, _, _, _, _, _ => none
 | k + 1, x1, x2, x10, x11, x48, x49, x50 => if x50 < x49 then (if 0 ≤ x50 then (if x50 < (x48.length : Int) then (if ((rd_T77 x48 x50).f1) = 3 then (instr_Check.j2 k x1 x2 x10 x11 x48 x49 x50 true ((rd_T77 x48 x50).f0) ((rd_T77 x48 x50).f1) ((rd_T77 x48 x50).f2) ((rd_T77 x48 x50).f3)) else (instr_Check.j2 k x1 x2 x10 x11 x48 x49 x50 (((rd_T77 x48 x50).f1) == 4) ((rd_T77 x48 x50).f0) ((rd_T77 x48 x50).f1) ((rd_T77 x48 x50).f2) ((rd_T77 x48 x50).f3))) else (none)) else (none)) else (some (0, 0))
def instr_Check.j2 : Nat → List (S50) → Int → Int → List Bool → List (S77) → Int → Int → Bool → Int → Int → Int → Int → Option (Int × Int)
 | 0, _, _, _, _, _, _, _, _, _, _, _, _ => none
 | k + 1, x1, x2, x10, x11, x48, x49, x50, x57, x455000, x455001, x455002, x455003 => if x57 = true then (if x455002 ≥ x2 then (if 43 = 0 then (instr_Check.l1 k x1 x2 43 x11 x48 x49 (wrap64 (x50 + 1))) else (some (x455000, 43))) else (if x10 = 0 then (instr_Check.l1 k x1 x2 x10 x11 x48 x49 (wrap64 (x50 + 1))) else (some (x455000, x10)))) else ((instr_jumps.f x455001).bind fun t455 => (if t455 = true then (if x455002 ≥ (x11.length : Int) then (instr_Check.j3 k x1 x2 x10 x11 x48 x49 x50 true x455000 x455001 x455002 x455003) else (if 0 ≤ x455002 then (if x455002 < (x11.length : Int) then (instr_Check.j3 k x1 x2 x10 x11 x48 x49 x50 (!(rdOf false x11 x455002)) x455000 x455001 x455002 x455003) else (none)) else (none))) else (if x455001 ≥ 38 then (instr_Check.j4 k x1 x2 x11 x48 x49 x50 (decide (x455001 ≤ 41)) x455000 x455001 x455002 x455003) else (instr_Check.j4 k x1 x2 x11 x48 x49 x50 false x455000 x455001 x455002 x455003))))
def instr_Check.j3 : Nat → List (S50) → Int → Int → List Bool → List (S77) → Int → Int → Bool → Int → Int → Int → Int → Option (Int × Int)
 | 0, _, _, _, _, _, _, _, _, _, _, _, _ => none
 | k + 1, x1, x2, x10, x11, x48, x49, x50, x86, x455000, x455001, x455002, x455003 => if x86 = true then (if 18 = 0 then (instr_Check.l1 k x1 x2 18 x11 x48 x49 (wrap64 (x50 + 1))) else (some (x455000, 18))) else (if x10 = 0 then (instr_Check.l1 k x1 x2 x10 x11 x48 x49 (wrap64 (x50 + 1))) else (some (x455000, x10)))
def instr_Check.j4 : Nat → List (S50) → Int → List Bool → List (S77) → Int → Int → Bool → Int → Int → Int → Int → Option (Int × Int)
 | 0, _, _, _, _, _, _, _, _, _, _, _ => none
 | k + 1, x1, x2, x11, x48, x49, x50, x87, x455000, x455001, x455002, x455003 => if x87 = true then ((instr_calls.f k x455000 x455001 x455002 x455003 x1).bind fun t457 => (if t457 = 0 then (instr_Check.l1 k x1 x2 t457 x11 x48 x49 (wrap64 (x50 + 1))) else (some (x455000, t457)))) else ((instr_asks.f k x455000 x455001 x455002 x455003 x1).bind fun t458 => (if t458 = 0 then (instr_Check.l1 k x1 x2 t458 x11 x48 x49 (wrap64 (x50 + 1))) else (some (x455000, t458))))
end
def instr_Check.f (k : Nat) (l0 : List Int) (l1 : List (S50)) (a2 : Int) : Option (Int × Int) := if (l0.length : Int) = 0 then (some (0, 46)) else (if (l0.length : Int) > 1024 then (some (0, 5)) else ((instr_All.f k l0).bind fun bt442 => (if bt442.2.2 = 0 then (if 0 ≤ (l0.length : Int) then (if ((l0.length : Int) : Int).toNat ≤ 281474976710656 then (instr_Check.l0 k l1 a2 bt442.1 bt442.2.2 (List.replicate ((l0.length : Int) : Int).toNat false) bt442.1 (bt442.1.length : Int) 0) else (none)) else (none)) else (some (bt442.2.1, bt442.2.2)))))
theorem instr_Check.mono_l : ∀ k, (∀ y0 y1 y2 y3 y4 y5 y6 y7, LeO (instr_Check.l0 k y0 y1 y2 y3 y4 y5 y6 y7) (instr_Check.l0 (k + 1) y0 y1 y2 y3 y4 y5 y6 y7)) ∧ (∀ y0 y1 y2 y3 y4 y5 y6, LeO (instr_Check.l1 k y0 y1 y2 y3 y4 y5 y6) (instr_Check.l1 (k + 1) y0 y1 y2 y3 y4 y5 y6)) ∧ (∀ y0 y1 y2 y3 y4 y5 y6 y7 y8 y9 y10 y11, LeO (instr_Check.j2 k y0 y1 y2 y3 y4 y5 y6 y7 y8 y9 y10 y11) (instr_Check.j2 (k + 1) y0 y1 y2 y3 y4 y5 y6 y7 y8 y9 y10 y11)) ∧ (∀ y0 y1 y2 y3 y4 y5 y6 y7 y8 y9 y10 y11, LeO (instr_Check.j3 k y0 y1 y2 y3 y4 y5 y6 y7 y8 y9 y10 y11) (instr_Check.j3 (k + 1) y0 y1 y2 y3 y4 y5 y6 y7 y8 y9 y10 y11)) ∧ (∀ y0 y1 y2 y3 y4 y5 y6 y7 y8 y9 y10, LeO (instr_Check.j4 k y0 y1 y2 y3 y4 y5 y6 y7 y8 y9 y10) (instr_Check.j4 (k + 1) y0 y1 y2 y3 y4 y5 y6 y7 y8 y9 y10))
 | 0 => ⟨fun _ _ _ _ _ _ _ _ r h => by simp [instr_Check.l0] at h, fun _ _ _ _ _ _ _ r h => by simp [instr_Check.l1] at h, fun _ _ _ _ _ _ _ _ _ _ _ _ r h => by simp [instr_Check.j2] at h, fun _ _ _ _ _ _ _ _ _ _ _ _ r h => by simp [instr_Check.j3] at h, fun _ _ _ _ _ _ _ _ _ _ _ r h => by simp [instr_Check.j4] at h⟩
 | k + 1 => by
  obtain ⟨ih0, ih1, ih2, ih3, ih4⟩ := instr_Check.mono_l k
  refine ⟨?_, ?_, ?_, ?_, ?_⟩
  ·
   intro y0 y1 y2 y3 y4 y5 y6 y7
   unfold instr_Check.l0
   repeat' first
   | (with_reducible exact ih0 _ _ _ _ _ _ _ _)
   | (with_reducible exact ih1 _ _ _ _ _ _ _)
   | (with_reducible exact ih2 _ _ _ _ _ _ _ _ _ _ _ _)
   | (with_reducible exact ih3 _ _ _ _ _ _ _ _ _ _ _ _)
   | (with_reducible exact ih4 _ _ _ _ _ _ _ _ _ _ _)
   | (with_reducible exact instr_All.mono _ _)
   | (with_reducible exact instr_asks.mono _ _ _ _ _ _)
   | (with_reducible exact instr_calls.mono _ _ _ _ _ _)
   | (with_reducible exact LeO.refl _)
   | (with_reducible exact LeO.none _)
   | (with_reducible refine LeO.ite ?_ ?_)
   | (with_reducible refine LeO.bind ?_ (fun _ => ?_))
   | exact ih0 _ _ _ _ _ _ _ _
   | exact ih1 _ _ _ _ _ _ _
   | exact ih2 _ _ _ _ _ _ _ _ _ _ _ _
   | exact ih3 _ _ _ _ _ _ _ _ _ _ _ _
   | exact ih4 _ _ _ _ _ _ _ _ _ _ _
   | exact instr_All.mono _ _
   | exact instr_asks.mono _ _ _ _ _ _
   | exact instr_calls.mono _ _ _ _ _ _
   | exact LeO.none _
   | refine LeO.ite ?_ ?_
   | refine LeO.bind ?_ (fun _ => ?_)
  ·
   intro y0 y1 y2 y3 y4 y5 y6
   unfold instr_Check.l1
   repeat' first
   | (with_reducible exact ih0 _ _ _ _ _ _ _ _)
   | (with_reducible exact ih1 _ _ _ _ _ _ _)
   | (with_reducible exact ih2 _ _ _ _ _ _ _ _ _ _ _ _)
   | (with_reducible exact ih3 _ _ _ _ _ _ _ _ _ _ _ _)
   | (with_reducible exact ih4 _ _ _ _ _ _ _ _ _ _ _)
   | (with_reducible exact instr_All.mono _ _)
   | (with_reducible exact instr_asks.mono _ _ _ _ _ _)
   | (with_reducible exact instr_calls.mono _ _ _ _ _ _)
   | (with_reducible exact LeO.refl _)
   | (with_reducible exact LeO.none _)
   | (with_reducible refine LeO.ite ?_ ?_)
   | (with_reducible refine LeO.bind ?_ (fun _ => ?_))
   | exact ih0 _ _ _ _ _ _ _ _
   | exact ih1 _ _ _ _ _ _ _
   | exact ih2 _ _ _ _ _ _ _ _ _ _ _ _
   | exact ih3 _ _ _ _ _ _ _ _ _ _ _ _
   | exact ih4 _ _ _ _ _ _ _ _ _ _ _
   | exact instr_All.mono _ _
   | exact instr_asks.mono _ _ _ _ _ _
   | exact instr_calls.mono _ _ _ _ _ _
   | exact LeO.none _
   | refine LeO.ite ?_ ?_
   | refine LeO.bind ?_ (fun _ => ?_)
  ·
   intro y0 y1 y2 y3 y4 y5 y6 y7 y8 y9 y10 y11
   unfold instr_Check.j2
   repeat' first
   | (with_reducible exact ih0 _ _ _ _ _ _ _ _)
   | (with_reducible exact ih1 _ _ _ _ _ _ _)
   | (with_reducible exact ih2 _ _ _ _ _ _ _ _ _ _ _ _)
   | (with_reducible exact ih3 _ _ _ _ _ _ _ _ _ _ _ _)
   | (with_reducible exact ih4 _ _ _ _ _ _ _ _ _ _ _)
   | (with_reducible exact instr_All.mono _ _)
   | (with_reducible exact instr_asks.mono _ _ _ _ _ _)
   | (with_reducible exact instr_calls.mono _ _ _ _ _ _)
   | (with_reducible exact LeO.refl _)
   | (with_reducible exact LeO.none _)
   | (with_reducible refine LeO.ite ?_ ?_)
   | (with_reducible refine LeO.bind ?_ (fun _ => ?_))
   | exact ih0 _ _ _ _ _ _ _ _
   | exact ih1 _ _ _ _ _ _ _
   | exact ih2 _ _ _ _ _ _ _ _ _ _ _ _
   | exact ih3 _ _ _ _ _ _ _ _ _ _ _ _
   | exact ih4 _ _ _ _ _ _ _ _ _ _ _
   | exact instr_All.mono _ _
   | exact instr_asks.mono _ _ _ _ _ _
   | exact instr_calls.mono _ _ _ _ _ _
   | exact LeO.none _
   | refine LeO.ite ?_ ?_
   | refine LeO.bind ?_ (fun _ => ?_)
  ·
   intro y0 y1 y2 y3 y4 y5 y6 y7 y8 y9 y10 y11
   unfold instr_Check.j3
   repeat' first
   | (with_reducible exact ih0 _ _ _ _ _ _ _ _)
   | (with_reducible exact ih1 _ _ _ _ _ _ _)
   | (with_reducible exact ih2 _ _ _ _ _ _ _ _ _ _ _ _)
   | (with_reducible exact ih3 _ _ _ _ _ _ _ _ _ _ _ _)
   | (with_reducible exact ih4 _ _ _ _ _ _ _ _ _ _ _)
   | (with_reducible exact instr_All.mono _ _)
   | (with_reducible exact instr_asks.mono _ _ _ _ _ _)
   | (with_reducible exact instr_calls.mono _ _ _ _ _ _)
   | (with_reducible exact LeO.refl _)
   | (with_reducible exact LeO.none _)
   | (with_reducible refine LeO.ite ?_ ?_)
   | (with_reducible refine LeO.bind ?_ (fun _ => ?_))
   | exact ih0 _ _ _ _ _ _ _ _
   | exact ih1 _ _ _ _ _ _ _
   | exact ih2 _ _ _ _ _ _ _ _ _ _ _ _
   | exact ih3 _ _ _ _ _ _ _ _ _ _ _ _
   | exact ih4 _ _ _ _ _ _ _ _ _ _ _
   | exact instr_All.mono _ _
   | exact instr_asks.mono _ _ _ _ _ _
   | exact instr_calls.mono _ _ _ _ _ _
   | exact LeO.none _
   | refine LeO.ite ?_ ?_
   | refine LeO.bind ?_ (fun _ => ?_)
  ·
   intro y0 y1 y2 y3 y4 y5 y6 y7 y8 y9 y10
   unfold instr_Check.j4
   repeat' first
   | (with_reducible exact ih0 _ _ _ _ _ _ _ _)
   | (with_reducible exact ih1 _ _ _ _ _ _ _)
   | (with_reducible exact ih2 _ _ _ _ _ _ _ _ _ _ _ _)
   | (with_reducible exact ih3 _ _ _ _ _ _ _ _ _ _ _ _)
   | (with_reducible exact ih4 _ _ _ _ _ _ _ _ _ _ _)
   | (with_reducible exact instr_All.mono _ _)
   | (with_reducible exact instr_asks.mono _ _ _ _ _ _)
   | (with_reducible exact instr_calls.mono _ _ _ _ _ _)
   | (with_reducible exact LeO.refl _)
   | (with_reducible exact LeO.none _)
   | (with_reducible refine LeO.ite ?_ ?_)
   | (with_reducible refine LeO.bind ?_ (fun _ => ?_))
   | exact ih0 _ _ _ _ _ _ _ _
   | exact ih1 _ _ _ _ _ _ _
   | exact ih2 _ _ _ _ _ _ _ _ _ _ _ _
   | exact ih3 _ _ _ _ _ _ _ _ _ _ _ _
   | exact ih4 _ _ _ _ _ _ _ _ _ _ _
   | exact instr_All.mono _ _
   | exact instr_asks.mono _ _ _ _ _ _
   | exact instr_calls.mono _ _ _ _ _ _
   | exact LeO.none _
   | refine LeO.ite ?_ ?_
   | refine LeO.bind ?_ (fun _ => ?_)
theorem instr_Check.mono : ∀ a0 a1 a2 k, LeO (instr_Check.f k a0 a1 a2) (instr_Check.f (k + 1) a0 a1 a2) := by
 intro a0 a1 a2 k
 obtain ⟨ih0, ih1, ih2, ih3, ih4⟩ := instr_Check.mono_l k
 unfold instr_Check.f
 repeat' first
  | (with_reducible exact ih0 _ _ _ _ _ _ _ _)
  | (with_reducible exact ih1 _ _ _ _ _ _ _)
  | (with_reducible exact ih2 _ _ _ _ _ _ _ _ _ _ _ _)
  | (with_reducible exact ih3 _ _ _ _ _ _ _ _ _ _ _ _)
  | (with_reducible exact ih4 _ _ _ _ _ _ _ _ _ _ _)
  | (with_reducible exact instr_All.mono _ _)
  | (with_reducible exact instr_asks.mono _ _ _ _ _ _)
  | (with_reducible exact instr_calls.mono _ _ _ _ _ _)
  | (with_reducible exact LeO.refl _)
  | (with_reducible exact LeO.none _)
  | (with_reducible refine LeO.ite ?_ ?_)
  | (with_reducible refine LeO.bind ?_ (fun _ => ?_))
  | exact ih0 _ _ _ _ _ _ _ _
  | exact ih1 _ _ _ _ _ _ _
  | exact ih2 _ _ _ _ _ _ _ _ _ _ _ _
  | exact ih3 _ _ _ _ _ _ _ _ _ _ _ _
  | exact ih4 _ _ _ _ _ _ _ _ _ _ _
  | exact instr_All.mono _ _
  | exact instr_asks.mono _ _ _ _ _ _
  | exact instr_calls.mono _ _ _ _ _ _
  | exact LeO.none _
  | refine LeO.ite ?_ ?_
  | refine LeO.bind ?_ (fun _ => ?_)
set_option maxHeartbeats 8000000 in
set_option maxRecDepth 100000 in
theorem instr_Check.calls (k : Nat) (A0 : Option Addr) (c0 : Nat) (l0 : List Int) (A1 : Option Addr) (c1 : Nat) (l1 : List (S50)) (a2 : Int) (r1 : Int) (r2 : Int) (w : World) (hr0 : Kd.C (Kd.int .u8) w A0 l0.length l0) (hc0 : l0.length ≤ c0) (hr1 : Kd.C k50 w A1 l1.length l1) (hc1 : l1.length ≤ c1) (h : instr_Check.f k l0 l1 a2 = some (r1, r2)) :
 Calls Tryd.prog 33 #[.slice A0 l0.length c0, .slice A1 l1.length c1, .int .i64 a2] w fun e w' => e = .returned (.tuple #[.int .i64 r1, .int .i64 r2]) ∧ Below w.heap.size w w' := by
 have hu77 := Tryd.underlying77
 have HR0 := Aside0.mk hr0
 have HC0 := Aside0.mk hc0
 clear hr0 hc0
 have HR1 := Aside0.mk hr1
 have HC1 := Aside0.mk hc1
 clear hr1 hc1
 have HB := Aside0.mk (Below.refl w.heap.size w)
 have H : (if (l0.length : Int) = 0 then (some (0, 46)) else (if (l0.length : Int) > 1024 then (some (0, 5)) else ((instr_All.f k l0).bind fun bt442 => (if bt442.2.2 = 0 then (if 0 ≤ (l0.length : Int) then (if ((l0.length : Int) : Int).toNat ≤ 281474976710656 then (instr_Check.l0 k l1 a2 bt442.1 bt442.2.2 (List.replicate ((l0.length : Int) : Int).toNat false) bt442.1 (bt442.1.length : Int) 0) else (none)) else (none)) else (some (bt442.2.1, bt442.2.2)))))) = some (r1, r2) := h
 clear h
 by_cases c4 : (l0.length : Int) = 0
 ·
  rw [if_pos c4] at H
  have c4b0 : ((l0.length : Int) == 0) = true := beq_iff_eq.mpr c4
  have c4b1 : ((l0.length : Int) != 0) = false := bne_eq_false_iff_eq.mpr c4
  clear c4
  simp only [Option.some.injEq, Prod.mk.injEq] at H
  obtain ⟨rfl, rfl⟩ := H
  go_enter Tryd.func33, Tryd.ntmps33
  go_wp2
  go_ret2
  exact ⟨E_, B_⟩
 ·
  rw [if_neg c4] at H
  have c4b0 : ((l0.length : Int) == 0) = false := beq_eq_false_iff_ne.mpr c4
  have c4b1 : ((l0.length : Int) != 0) = true := bne_iff_ne.mpr c4
  have c4b2 : ¬ (l0 = []) := fun h_ => c4 (by rw [h_]; rfl)
  by_cases c5 : (l0.length : Int) > 1024
  ·
   rw [if_pos c5] at H
   have c5b0 : decide (1024 < (l0.length : Int)) = true := decide_eq_true c5
   have c5b1 : decide (1024 < l0.length) = true := decide_eq_true (by omega)
   clear c5
   simp only [Option.some.injEq, Prod.mk.injEq] at H
   obtain ⟨rfl, rfl⟩ := H
   go_enter Tryd.func33, Tryd.ntmps33
   go_wp2
   go_ret2
   exact ⟨E_, B_⟩
  ·
   rw [if_neg c5] at H
   have c5b0 : decide (1024 < (l0.length : Int)) = false := decide_eq_false c5
   have c5b1 : decide (1024 < l0.length) = false := decide_eq_false (by omega)
   clear c5
   replace H := Option.bind_eq_some_iff.mp H
   obtain ⟨⟨t442, t443, t444⟩, A60, H⟩ := H
   replace H : (if t444 = 0 then (if 0 ≤ (l0.length : Int) then (if ((l0.length : Int) : Int).toNat ≤ 281474976710656 then (instr_Check.l0 k l1 a2 t442 t444 (List.replicate ((l0.length : Int) : Int).toNat false) t442 (t442.length : Int) 0) else (none)) else (none)) else (some (t443, t444))) = some (r1, r2) := H
   have A6 := Aside0.mk A60
   clear A60
   by_cases c7 : t444 = 0
   ·
    rw [if_pos c7] at H
    have c7b0 : (t444 == 0) = true := beq_iff_eq.mpr c7
    have c7b1 : (t444 != 0) = false := bne_eq_false_iff_eq.mpr c7
    clear c7
    by_cases c8 : 0 ≤ (l0.length : Int)
    ·
     rw [if_pos c8] at H
     have c8b0 := eq_true c8
     have c8b1 : decide (0 ≤ (l0.length : Int)) = true := decide_eq_true c8
     clear c8
     by_cases c9 : ((l0.length : Int) : Int).toNat ≤ 281474976710656
     ·
      rw [if_pos c9] at H
      have c9b0 := eq_true c9
      have c9b1 : decide (((l0.length : Int) : Int).toNat ≤ 281474976710656) = true := decide_eq_true c9
      clear c9
      obtain ⟨y447, hy447⟩ : ∃ y_ : List Bool, y_ = (List.replicate ((l0.length : Int) : Int).toNat false) := ⟨_, rfl⟩
      replace H : (instr_Check.l0 k l1 a2 t442 t444 y447 t442 (t442.length : Int) 0) = some (r1, r2) := by first | (rw [hy447]; with_reducible exact H) | (have H2_ := (Option.bind_some _ _).symm.trans H; rw [hy447]; with_reducible exact H2_) | (have H2_ := (Option.bind_some _ _).symm.trans H; with_reducible exact H2_) | with_reducible exact H | (rw [hy447]; exact H) | exact H
      have Ny447 := Aside0.mk hy447
      clear hy447
      have H' := Aside0.mk H
      clear H
      go_enter Tryd.func33, Tryd.ntmps33
      go_wp2_with (first | ((with_reducible refine gt_ 35 ?_); refine gc_ 26 Tryd.func35 #[.slice A0 l0.length c0] ?_; (with_reducible refine (instr_All.calls k _ _ l0 t442 t443 t444 _ ?side1 ?side2 A6.out).mono ?_); (case side1 => exact Y_ HR0.out); (case side2 => exact HC0.out); rintro e w10 ⟨v445, rfl, ho0, hb⟩; refine ⟨_, rfl, ?_⟩; have HO446 := Aside0.mk (Kd.R_lower ho0 (below_size B_)); have HB := bs_ hb; (try clear hb); (try clear hb2); (try clear hk); (try clear hi); (try clear ho0)) | ((with_reducible refine d_ 36 ?_); refine Kd.R_make Kd.bool _ 4 rfl (N := 36) rfl 78 _ _ rfl (l0.length : Int) rfl rfl Tryd.underlying78 (.bool false) 1 info4 rfl (by decide) (by omega) false (ok := fun _ => True) (okp := fun _ => True) rfl (fun _ hk => hk) trivial (of_decide_eq_true A_) (Nat.le_trans (Nat.mul_le_mul_right _ (of_decide_eq_true A_ : (l0.length : Int).toNat ≤ 281474976710656)) (by omega)) (Below.refl _ _) (Nat.le_refl _) ?_; intro v448 w11 ho12 hb hg_ hnew_; clear hg_ hnew_; (first | rw [← Ny447.out] at ho12 | (simp only [Int.reduceToNat] at ho12; rw [← Ny447.out] at ho12)); have HO446 := rb_ HO446 hb; have HO449 := Aside0.mk (Kd.R_lower ho12 (below_size B_)); have HB := bs_ hb; clear hb ho12; obtain ⟨Ao13, co13, eo13⟩ := Kd.R_slice HO446.out; subst eo13))
      go_loopg [39] k (fun kq v39 w' => ∃ (x11_1 : List Bool) (x39_1 : Int), v39 = .int .i64 x39_1 ∧ Aside0 (instr_Check.l0 kq l1 a2 t442 t444 x11_1 t442 (t442.length : Int) x39_1 = some (r1, r2)) ∧ Aside0 (kq ≤ k) ∧ Aside0 (Kd.R k77 77 w' w.heap.size (fun _ => True) (.slice Ao13 t442.length co13) t442) ∧ Aside0 (Kd.R Kd.bool 4 w' w.heap.size (fun _ => True) v448 x11_1) ∧ Aside0 (Kd.R k77 77 w' w.heap.size (fun _ => True) (.slice Ao13 t442.length co13) t442) ∧ Aside0 (Below w.heap.size w w'))
      case atStart => exact ⟨(y447), (0), R_, H', ⟨Nat.le_refl _⟩, ⟨by (with_reducible repeat (first | apply Kd.R_alloc | apply Kd.R_drewN | apply Kd.R_drew)); exact HO446.out⟩, ⟨by (with_reducible repeat (first | apply Kd.R_alloc | apply Kd.R_drewN | apply Kd.R_drew)); exact HO449.out⟩, ⟨by (with_reducible repeat (first | apply Kd.R_alloc | apply Kd.R_drewN | apply Kd.R_drew)); exact HO446.out⟩, ⟨B_⟩⟩
      case round =>
       clear H' c4 c4b0 c4b1 c4b2 c5b0 c5b1 c7b0 c7b1 c8b0 c8b1 c9b0 c9b1
       obtain ⟨x11_1, x39_1, rfl, HA, HK1, HO_8, HO_11, HO_37, HB⟩ := hrel
       cases gk with
       | zero => exact absurd HA.out (by simp [instr_Check.l0])
       | succ k1 =>
        have H := HA.out
        clear HA
        simp only [instr_Check.l0] at H
        by_cases c14 : x39_1 < (t442.length : Int)
        ·
         rw [if_pos c14] at H
         have c14b0 : decide (x39_1 < (t442.length : Int)) = true := decide_eq_true c14
         clear c14
         by_cases c15 : 0 ≤ x39_1
         ·
          rw [if_pos c15] at H
          have c15b0 : decide (0 ≤ x39_1) = true := decide_eq_true c15
          clear c15
          by_cases c16 : x39_1 < (t442.length : Int)
          ·
           rw [if_pos c16] at H
           have c16b0 : decide (x39_1 < (t442.length : Int)) = true := decide_eq_true c16
           clear c16
           by_cases c17 : 0 ≤ ((rd_T77 t442 x39_1).f0)
           ·
            rw [if_pos c17] at H
            have c17b0 : decide (0 ≤ ((rd_T77 t442 x39_1).f0)) = true := decide_eq_true c17
            clear c17
            by_cases c18 : ((rd_T77 t442 x39_1).f0) < (x11_1.length : Int)
            ·
             rw [if_pos c18] at H
             have c18b0 : decide (((rd_T77 t442 x39_1).f0) < (x11_1.length : Int)) = true := decide_eq_true c18
             clear c18
             obtain ⟨y452, hy452⟩ : ∃ y_ : List Bool, y_ = (x11_1.set (((rd_T77 t442 x39_1).f0) : Int).toNat true) := ⟨_, rfl⟩
             replace H : (instr_Check.l0 k1 l1 a2 t442 t444 y452 t442 (t442.length : Int) (wrap64 (x39_1 + 1))) = some (r1, r2) := by first | (rw [hy452]; with_reducible exact H) | (have H2_ := (Option.bind_some _ _).symm.trans H; rw [hy452]; with_reducible exact H2_) | (have H2_ := (Option.bind_some _ _).symm.trans H; with_reducible exact H2_) | with_reducible exact H | (rw [hy452]; exact H) | exact H
             have Ny452 := Aside0.mk hy452
             clear hy452
             have H' := Aside0.mk H
             clear H
             have p450 : 0 ≤ (x39_1 : Int) := of_decide_eq_true A_
             have q450 : x39_1 < (t442.length : Int) := of_decide_eq_true A_
             obtain ⟨ad450, e450, hx450_0, hx450_1, hx450_2, hx450_3⟩ := at_T77 (Kd.R_reads' HO_37.out).2.2 x39_1 p450 q450
             cases e450
             replace p450 := eq_true p450
             replace q450 := eq_true q450
             go_wp2_with (first | ((with_reducible refine d_ 13 ?_); refine X_ 13 #[.int .i64 0, .int .i64 0, .int .i64 0, .int .i64 0] 77 ?_; intro gb451 hg w20 hbox hb; have HO_8 := Aside0.mk (Kd.R_below (Kd.R_elderB (Q_ HO_8.out) gb451 (Nat.le_of_eq hg.symm)) hb); have HO_11 := rb_ HO_11 hb; have HO_37 := Aside0.mk (Kd.R_below (Kd.R_elderB (Q_ HO_37.out) gb451 (Nat.le_of_eq hg.symm)) hb); have BK451 := Aside0.mk hbox; have GW451 := Aside0.mk (s_ hg); have GE451 := GW451; have HB := bs_ hb; clear hb hbox hg; obtain ⟨hcz21_0, hcz21_1, hcz21_2, hcz21_3, hfz21_0, hfz21_1, hfz21_2, hfz21_3⟩ := c4_ BK451.out) | ((with_reducible refine gate_store (t := 77) (p := 13) rfl ?_); refine store_event (t := 77) (p := 13) (v := ?vo_w22) (w1 := ((((w20.setCell ⟨gb451, 0, none⟩ (.int .i64 ((rd_T77 t442 x39_1).f0))).setCell ⟨gb451, 1, none⟩ (.int .i64 ((rd_T77 t442 x39_1).f1))).setCell ⟨gb451, 2, none⟩ (.int .i64 ((rd_T77 t442 x39_1).f2))).setCell ⟨gb451, 3, none⟩ (.int .i64 ((rd_T77 t442 x39_1).f3)))) ?hg ?ho ?hn ?hr ?_; (case ho => rfl); (case hg => rfl); (case hn => rfl); (case hr => first | (go_simp; done) | (go_simp; rfl)); intro w22 hw; have n0_ : Aside0 (Kd.R k77 77 w22 w.heap.size (fun k_ => k_ ≠ gb451) (.slice (some ad450) t442.length co13) t442) := ⟨(by rw [hw]; exact (by (with_reducible repeat (first | apply Kd.R_alloc | apply Kd.R_drewN | apply Kd.R_drew)); exact Kd.R_mono (Kd.R_far (p := ⟨gb451, 3, none⟩) (Kd.R_far (p := ⟨gb451, 2, none⟩) (Kd.R_far (p := ⟨gb451, 1, none⟩) (Kd.R_far (p := ⟨gb451, 0, none⟩) (Kd.R_mono HO_8.out (fun k_ hk => (⟨hk, hk.2⟩ : _ ∧ k_ ≠ gb451))) (fun _ hk => hk.2) (.int .i64 ((rd_T77 t442 x39_1).f0))) (fun _ hk => hk.2) (.int .i64 ((rd_T77 t442 x39_1).f1))) (fun _ hk => hk.2) (.int .i64 ((rd_T77 t442 x39_1).f2))) (fun _ hk => hk.2) (.int .i64 ((rd_T77 t442 x39_1).f3))) (fun _ hk => hk.1.2)))⟩; have n1_ : Aside0 (Kd.R Kd.bool 4 w22 w.heap.size (fun _ => True) v448 x11_1) := ⟨(by rw [hw]; exact (by (with_reducible repeat (first | apply Kd.R_alloc | apply Kd.R_drewN | apply Kd.R_drew)); exact Kd.R_mono (Kd.R_far (p := ⟨gb451, 3, none⟩) (Kd.R_far (p := ⟨gb451, 2, none⟩) (Kd.R_far (p := ⟨gb451, 1, none⟩) (Kd.R_far (p := ⟨gb451, 0, none⟩) (Kd.R_types HO_11.out BK451.out (by decide)) (fun _ hk => hk.2) (.int .i64 ((rd_T77 t442 x39_1).f0))) (fun _ hk => hk.2) (.int .i64 ((rd_T77 t442 x39_1).f1))) (fun _ hk => hk.2) (.int .i64 ((rd_T77 t442 x39_1).f2))) (fun _ hk => hk.2) (.int .i64 ((rd_T77 t442 x39_1).f3))) (fun _ hk => trivial)))⟩; have n2_ : Aside0 (Kd.R k77 77 w22 w.heap.size (fun k_ => k_ ≠ gb451) (.slice (some ad450) t442.length co13) t442) := ⟨(by rw [hw]; exact (by (with_reducible repeat (first | apply Kd.R_alloc | apply Kd.R_drewN | apply Kd.R_drew)); exact Kd.R_mono (Kd.R_far (p := ⟨gb451, 3, none⟩) (Kd.R_far (p := ⟨gb451, 2, none⟩) (Kd.R_far (p := ⟨gb451, 1, none⟩) (Kd.R_far (p := ⟨gb451, 0, none⟩) (Kd.R_mono HO_37.out (fun k_ hk => (⟨hk, hk.2⟩ : _ ∧ k_ ≠ gb451))) (fun _ hk => hk.2) (.int .i64 ((rd_T77 t442 x39_1).f0))) (fun _ hk => hk.2) (.int .i64 ((rd_T77 t442 x39_1).f1))) (fun _ hk => hk.2) (.int .i64 ((rd_T77 t442 x39_1).f2))) (fun _ hk => hk.2) (.int .i64 ((rd_T77 t442 x39_1).f3))) (fun _ hk => hk.1.2)))⟩; have n3_ : Aside0 (w22.heap[gb451]? = some (.cells #[.int .i64 ((rd_T77 t442 x39_1).f0), .int .i64 ((rd_T77 t442 x39_1).f1), .int .i64 ((rd_T77 t442 x39_1).f2), .int .i64 ((rd_T77 t442 x39_1).f3)] 77 (0, 0))) := ⟨(by rw [hw]; exact P_)⟩; have n4_ : Aside0 (Below w.heap.size w w22) := ⟨(by rw [hw]; exact B_)⟩; clear hw; clear HO_8; clear HO_11; clear HO_37; clear BK451; clear HB; have HO_8 := n0_; have HO_11 := n1_; have HO_37 := n2_; have BK451 := n3_; have HB := n4_; clear n0_ n1_ n2_ n3_ n4_; obtain ⟨hcz23_0, hcz23_1, hcz23_2, hcz23_3, hfz23_0, hfz23_1, hfz23_2, hfz23_3⟩ := c4_ BK451.out; have p19 : 0 ≤ (((rd_T77 t442 x39_1).f0) : Int) := of_decide_eq_true A_; have q19 : (((rd_T77 t442 x39_1).f0) : Int) < ((x11_1.length : Int) : Int) := of_decide_eq_true A_; obtain ⟨go19, co19, eo19, gb19, gl19, cl19, HG19⟩ := Kd.R_form HO_11.out (by omega); (first | cases eo19 | (injection eo19 with ea_ en_ ec_; (first | subst ea_ | (injection ea_ with ea_; subst ea_)); subst ec_; clear en_)); have GB19 := Aside0.mk gb19; have GG19 := Aside0.mk HG19; clear gb19 gl19 HG19; obtain ⟨hx19_0, hf19_0⟩ := Kd.R_celln false HO_11.out (((rd_T77 t442 x39_1).f0) : Int) p19 q19; replace p19 := eq_true p19; replace q19 := eq_true q19; obtain ⟨hy24_, hz24_⟩ := Kd.R_celln false HO_11.out (((rd_T77 t442 x39_1).f0) : Int) (of_decide_eq_true A_) (of_decide_eq_true A_); have HP24 := Kd.R_putg HO_11.out (((rd_T77 t442 x39_1).f0) : Int) true) | ((with_reducible refine gate_store (t := 4) (p := 46) rfl ?_); refine store_event (t := 4) (p := 46) (v := ?vo_w25) (w1 := (w22.setCell ⟨go19, (((rd_T77 t442 x39_1).f0) : Int).toNat, none⟩ (.bool true))) ?hg ?ho ?hn ?hr ?_; (case ho => rfl); (case hg => rfl); (case hn => rfl); (case hr => first | (go_simp; done) | (go_simp; rfl)); intro w25 hw; have hg : w22.grownBy w25 (some go19) := (by rw [hw]; exact HP24.2); have hp_ : Kd.R Kd.bool 4 w25 w.heap.size (fun _ => True) (.slice (some ⟨go19, 0, none⟩) x11_1.length co19) y452 := (by rw [hw, Ny452.out]; exact HP24.1); clear HP24; have HO_8 := Aside0.mk (Kd.R_over' (v := (.slice (some ⟨go19, 0, none⟩) x11_1.length co19)) (Q_ HO_8.out) (Kd.R_typed HO_11.out) (by decide) hg); have HO_37 := Aside0.mk (Kd.R_over' (v := (.slice (some ⟨go19, 0, none⟩) x11_1.length co19)) (Q_ HO_37.out) (Kd.R_typed HO_11.out) (by decide) hg); have BK451 := Aside0.mk (blk_grown (g := gb451) (o := .cells #[.int .i64 ((rd_T77 t442 x39_1).f0), .int .i64 ((rd_T77 t442 x39_1).f1), .int .i64 ((rd_T77 t442 x39_1).f2), .int .i64 ((rd_T77 t442 x39_1).f3)] 77 (0, 0)) M_ hg (Kd.R_ne HO_11.out BK451.out (by decide))); have HO_11 := Aside0.mk (hp_); have HB := Aside0.mk ((by rw [hw]; exact below_set (HB.out) GB19.out : Below w.heap.size w w25)); clear hg hw hp_))
             go_roundg k1
             case measure => have := HK1.out; omega
             case rel => exact ⟨(y452), (wrap64 (x39_1 + 1)), R_, H', ⟨by have := HK1.out; omega⟩, ⟨by (with_reducible repeat (first | apply Kd.R_alloc | apply Kd.R_drewN | apply Kd.R_drew)); exact Kd.R_mono HO_8.out (fun _ hk => trivial)⟩, ⟨by (with_reducible repeat (first | apply Kd.R_alloc | apply Kd.R_drewN | apply Kd.R_drew)); exact HO_11.out⟩, ⟨by (with_reducible repeat (first | apply Kd.R_alloc | apply Kd.R_drewN | apply Kd.R_drew)); exact Kd.R_mono HO_37.out (fun _ hk => trivial)⟩, ⟨B_⟩⟩
            ·
             rw [if_neg c18] at H
             exact absurd H (by simp)
           ·
            rw [if_neg c17] at H
            exact absurd H (by simp)
          ·
           rw [if_neg c16] at H
           exact absurd H (by simp)
         ·
          rw [if_neg c15] at H
          exact absurd H (by simp)
        ·
         rw [if_neg c14] at H
         have c14b0 : decide (x39_1 < (t442.length : Int)) = false := decide_eq_false c14
         clear c14
         have H' := Aside0.mk H
         clear H
         go_wp2
         go_loopg [10, 50] k1 (fun kq v10 v50 w' => ∃ (x10_2 : Int) (x50_2 : Int), v10 = .int .i64 x10_2 ∧ v50 = .int .i64 x50_2 ∧ Aside0 (instr_Check.l1 kq l1 a2 x10_2 x11_1 t442 (t442.length : Int) x50_2 = some (r1, r2)) ∧ Aside0 (kq ≤ k1) ∧ Aside0 (Kd.R Kd.bool 4 w' w.heap.size (fun _ => True) v448 x11_1) ∧ Aside0 (Kd.R k77 77 w' w.heap.size (fun _ => True) (.slice Ao13 t442.length co13) t442) ∧ Aside0 (Below w.heap.size w w'))
         case atStart => exact ⟨(t444), (0), R_, R_, H', ⟨Nat.le_refl _⟩, ⟨by (with_reducible repeat (first | apply Kd.R_alloc | apply Kd.R_drewN | apply Kd.R_drew)); exact HO_11.out⟩, ⟨by (with_reducible repeat (first | apply Kd.R_alloc | apply Kd.R_drewN | apply Kd.R_drew)); exact HO_8.out⟩, ⟨B_⟩⟩
         case round =>
          clear H' c14b0
          obtain ⟨x10_2, x50_2, rfl, rfl, HA, HK2, HO_11, HO_48, HB⟩ := hrel
          cases gk with
          | zero => exact absurd HA.out (by simp [instr_Check.l1])
          | succ k2 =>
           have H := HA.out
           clear HA
           simp only [instr_Check.l1] at H
           by_cases c26 : x50_2 < (t442.length : Int)
           ·
            rw [if_pos c26] at H
            have c26b0 : decide (x50_2 < (t442.length : Int)) = true := decide_eq_true c26
            clear c26
            by_cases c27 : 0 ≤ x50_2
            ·
             rw [if_pos c27] at H
             have c27b0 : decide (0 ≤ x50_2) = true := decide_eq_true c27
             clear c27
             by_cases c28 : x50_2 < (t442.length : Int)
             ·
              rw [if_pos c28] at H
              have c28b0 : decide (x50_2 < (t442.length : Int)) = true := decide_eq_true c28
              clear c28
              have HC29 := Aside0.mk H
              clear H
              have p453 : 0 ≤ (x50_2 : Int) := of_decide_eq_true A_
              have q453 : x50_2 < (t442.length : Int) := of_decide_eq_true A_
              obtain ⟨ad453, e453, hx453_0, hx453_1, hx453_2, hx453_3⟩ := at_T77 (Kd.R_reads' HO_48.out).2.2 x50_2 p453 q453
              cases e453
              replace p453 := eq_true p453
              replace q453 := eq_true q453
              go_upto_region 18 with (first | ((with_reducible refine d_ 15 ?_); refine X_ 15 #[.int .i64 0, .int .i64 0, .int .i64 0, .int .i64 0] 77 ?_; intro gb454 hg w30 hbox hb; have HO_11 := rb_ HO_11 hb; have HO_48 := Aside0.mk (Kd.R_below (Kd.R_elderB (Q_ HO_48.out) gb454 (Nat.le_of_eq hg.symm)) hb); have BK454 := Aside0.mk hbox; have GW454 := Aside0.mk (s_ hg); have GE454 := GW454; have HB := bs_ hb; clear hb hbox hg; obtain ⟨hcz31_0, hcz31_1, hcz31_2, hcz31_3, hfz31_0, hfz31_1, hfz31_2, hfz31_3⟩ := c4_ BK454.out))
              (try simp only [Act.put, List.setIfInBounds_toArray, List.set_cons_zero, List.set_cons_succ])
              go_cut [57] (fun v57 wc => ∃ (kq : Nat) (x57_28 : Bool), v57 = .bool x57_28 ∧ Aside0 (instr_Check.j2 kq l1 a2 x10_2 x11_1 t442 (t442.length : Int) x50_2 x57_28 ((rd_T77 t442 x50_2).f0) ((rd_T77 t442 x50_2).f1) ((rd_T77 t442 x50_2).f2) ((rd_T77 t442 x50_2).f3) = some (r1, r2)) ∧ Aside0 (kq ≤ k2) ∧ Aside0 (Kd.R Kd.bool 4 wc w.heap.size (fun _ => True) v448 x11_1) ∧ Aside0 (Kd.R k77 77 wc w.heap.size (fun k_ => k_ ≠ gb454) (.slice (some ad453) t442.length co13) t442) ∧ Aside0 (wc.heap[gb454]? = some (.cells #[.int .i64 ((rd_T77 t442 x50_2).f0), .int .i64 ((rd_T77 t442 x50_2).f1), .int .i64 ((rd_T77 t442 x50_2).f2), .int .i64 ((rd_T77 t442 x50_2).f3)] 77 (0, 0))) ∧ Aside0 (Below w.heap.size w wc))
              case first =>
               have H := HC29.out
               clear HC29
               by_cases c32 : ((rd_T77 t442 x50_2).f1) = 3
               ·
                rw [if_pos c32] at H
                have c32b0 : (((rd_T77 t442 x50_2).f1) == 3) = true := beq_iff_eq.mpr c32
                have c32b1 : (((rd_T77 t442 x50_2).f1) != 3) = false := bne_eq_false_iff_eq.mpr c32
                clear c32
                (first | rw [c32b0] | (simp only [i64_w, i32_w]; rw [c32b0]) | skip)
                have H' := Aside0.mk H
                clear H
                obtain ⟨hcz33_0, hcz33_1, hcz33_2, hcz33_3, hfz33_0, hfz33_1, hfz33_2, hfz33_3⟩ := c4_ BK454.out
                go_wp2
                go_meet
                case rel => exact ⟨_, (true), R_, H', ⟨by have := HK1.out; have := HK2.out; first | omega | exact Nat.le_refl _⟩, ⟨by (with_reducible repeat (first | apply Kd.R_alloc | apply Kd.R_drewN | apply Kd.R_drew)); exact Kd.R_mono (Kd.R_far (p := ⟨gb454, 3, none⟩) (Kd.R_far (p := ⟨gb454, 2, none⟩) (Kd.R_far (p := ⟨gb454, 1, none⟩) (Kd.R_far (p := ⟨gb454, 0, none⟩) (Kd.R_types HO_11.out BK454.out (by decide)) (fun _ hk => hk.2) (.int .i64 ((rd_T77 t442 x50_2).f0))) (fun _ hk => hk.2) (.int .i64 ((rd_T77 t442 x50_2).f1))) (fun _ hk => hk.2) (.int .i64 ((rd_T77 t442 x50_2).f2))) (fun _ hk => hk.2) (.int .i64 ((rd_T77 t442 x50_2).f3))) (fun _ hk => trivial)⟩, ⟨by (with_reducible repeat (first | apply Kd.R_alloc | apply Kd.R_drewN | apply Kd.R_drew)); exact Kd.R_mono (Kd.R_far (p := ⟨gb454, 3, none⟩) (Kd.R_far (p := ⟨gb454, 2, none⟩) (Kd.R_far (p := ⟨gb454, 1, none⟩) (Kd.R_far (p := ⟨gb454, 0, none⟩) (Kd.R_mono HO_48.out (fun k_ hk => (⟨hk, hk.2⟩ : _ ∧ k_ ≠ gb454))) (fun _ hk => hk.2) (.int .i64 ((rd_T77 t442 x50_2).f0))) (fun _ hk => hk.2) (.int .i64 ((rd_T77 t442 x50_2).f1))) (fun _ hk => hk.2) (.int .i64 ((rd_T77 t442 x50_2).f2))) (fun _ hk => hk.2) (.int .i64 ((rd_T77 t442 x50_2).f3))) (fun _ hk => hk.1.2)⟩, ⟨P_⟩, ⟨B_⟩⟩
               ·
                rw [if_neg c32] at H
                have c32b0 : (((rd_T77 t442 x50_2).f1) == 3) = false := beq_eq_false_iff_ne.mpr c32
                have c32b1 : (((rd_T77 t442 x50_2).f1) != 3) = true := bne_iff_ne.mpr c32
                (first | rw [c32b0] | (simp only [i64_w, i32_w]; rw [c32b0]) | skip)
                have H' := Aside0.mk H
                clear H
                obtain ⟨hcz34_0, hcz34_1, hcz34_2, hcz34_3, hfz34_0, hfz34_1, hfz34_2, hfz34_3⟩ := c4_ BK454.out
                go_wp2
                go_meet
                case rel => exact ⟨_, ((((rd_T77 t442 x50_2).f1) == 4)), R_, H', ⟨by have := HK1.out; have := HK2.out; first | omega | exact Nat.le_refl _⟩, ⟨by (with_reducible repeat (first | apply Kd.R_alloc | apply Kd.R_drewN | apply Kd.R_drew)); exact Kd.R_mono (Kd.R_far (p := ⟨gb454, 3, none⟩) (Kd.R_far (p := ⟨gb454, 2, none⟩) (Kd.R_far (p := ⟨gb454, 1, none⟩) (Kd.R_far (p := ⟨gb454, 0, none⟩) (Kd.R_types HO_11.out BK454.out (by decide)) (fun _ hk => hk.2) (.int .i64 ((rd_T77 t442 x50_2).f0))) (fun _ hk => hk.2) (.int .i64 ((rd_T77 t442 x50_2).f1))) (fun _ hk => hk.2) (.int .i64 ((rd_T77 t442 x50_2).f2))) (fun _ hk => hk.2) (.int .i64 ((rd_T77 t442 x50_2).f3))) (fun _ hk => trivial)⟩, ⟨by (with_reducible repeat (first | apply Kd.R_alloc | apply Kd.R_drewN | apply Kd.R_drew)); exact Kd.R_mono (Kd.R_far (p := ⟨gb454, 3, none⟩) (Kd.R_far (p := ⟨gb454, 2, none⟩) (Kd.R_far (p := ⟨gb454, 1, none⟩) (Kd.R_far (p := ⟨gb454, 0, none⟩) (Kd.R_mono HO_48.out (fun k_ hk => (⟨hk, hk.2⟩ : _ ∧ k_ ≠ gb454))) (fun _ hk => hk.2) (.int .i64 ((rd_T77 t442 x50_2).f0))) (fun _ hk => hk.2) (.int .i64 ((rd_T77 t442 x50_2).f1))) (fun _ hk => hk.2) (.int .i64 ((rd_T77 t442 x50_2).f2))) (fun _ hk => hk.2) (.int .i64 ((rd_T77 t442 x50_2).f3))) (fun _ hk => hk.1.2)⟩, ⟨P_⟩, ⟨B_⟩⟩
              case rest =>
               clear HC29 c26b0 c27b0 c28b0 hcz31_0 hcz31_1 hcz31_2 hcz31_3 hfz31_0 hfz31_1 hfz31_2 hfz31_3 hx453_0 hx453_1 hx453_2 hx453_3 p453 q453
               obtain ⟨kq, x57_28, rfl, HA, HJ28, HO_11, HO_48, BK454, HB⟩ := hcut
               cases kq with
               | zero => exact absurd HA.out (by simp [instr_Check.j2])
               | succ kj28 =>
                have H := HA.out
                clear HA
                simp only [instr_Check.j2] at H
                by_cases c35 : x57_28 = true
                ·
                 subst c35
                 have H1 : (if ((rd_T77 t442 x50_2).f2) ≥ a2 then (if 43 = 0 then (instr_Check.l1 kj28 l1 a2 43 x11_1 t442 (t442.length : Int) (wrap64 (x50_2 + 1))) else (some (((rd_T77 t442 x50_2).f0), 43))) else (if x10_2 = 0 then (instr_Check.l1 kj28 l1 a2 x10_2 x11_1 t442 (t442.length : Int) (wrap64 (x50_2 + 1))) else (some (((rd_T77 t442 x50_2).f0), x10_2)))) = some (r1, r2) := by rw [if_pos rfl] at H; exact H
                 clear H
                 have H := H1
                 clear H1
                 by_cases c36 : ((rd_T77 t442 x50_2).f2) ≥ a2
                 ·
                  rw [if_pos c36] at H
                  have c36b0 : decide (a2 ≤ ((rd_T77 t442 x50_2).f2)) = true := decide_eq_true c36
                  clear c36
                  by_cases c37 : 43 = 0
                  ·
                   exact absurd c37 (by decide)
                  ·
                   rw [if_neg c37] at H
                   have c37b0 : (43 == 0) = false := beq_eq_false_iff_ne.mpr c37
                   have c37b1 : (43 != 0) = true := bne_iff_ne.mpr c37
                   simp only [Option.some.injEq, Prod.mk.injEq] at H
                   obtain ⟨rfl, rfl⟩ := H
                   obtain ⟨hcz39_0, hcz39_1, hcz39_2, hcz39_3, hfz39_0, hfz39_1, hfz39_2, hfz39_3⟩ := c4_ BK454.out
                   go_wp2
                   go_ret2
                   exact ⟨E_, B_⟩
                 ·
                  rw [if_neg c36] at H
                  have c36b0 : decide (a2 ≤ ((rd_T77 t442 x50_2).f2)) = false := decide_eq_false c36
                  clear c36
                  by_cases c40 : x10_2 = 0
                  ·
                   rw [if_pos c40] at H
                   have c40b0 : (x10_2 == 0) = true := beq_iff_eq.mpr c40
                   have c40b1 : (x10_2 != 0) = false := bne_eq_false_iff_eq.mpr c40
                   clear c40
                   have H' := Aside0.mk H
                   clear H
                   obtain ⟨hcz41_0, hcz41_1, hcz41_2, hcz41_3, hfz41_0, hfz41_1, hfz41_2, hfz41_3⟩ := c4_ BK454.out
                   go_wp2
                   go_roundg kj28
                   case measure => have := HK1.out; have := HK2.out; have := HJ28.out; omega
                   case rel => exact ⟨(x10_2), (wrap64 (x50_2 + 1)), R_, R_, H', ⟨by have := HK1.out; have := HK2.out; have := HJ28.out; omega⟩, ⟨by (with_reducible repeat (first | apply Kd.R_alloc | apply Kd.R_drewN | apply Kd.R_drew)); exact HO_11.out⟩, ⟨by (with_reducible repeat (first | apply Kd.R_alloc | apply Kd.R_drewN | apply Kd.R_drew)); exact Kd.R_mono HO_48.out (fun _ hk => trivial)⟩, ⟨B_⟩⟩
                  ·
                   rw [if_neg c40] at H
                   have c40b0 : (x10_2 == 0) = false := beq_eq_false_iff_ne.mpr c40
                   have c40b1 : (x10_2 != 0) = true := bne_iff_ne.mpr c40
                   simp only [Option.some.injEq, Prod.mk.injEq] at H
                   obtain ⟨rfl, rfl⟩ := H
                   obtain ⟨hcz42_0, hcz42_1, hcz42_2, hcz42_3, hfz42_0, hfz42_1, hfz42_2, hfz42_3⟩ := c4_ BK454.out
                   go_wp2
                   go_ret2
                   exact ⟨E_, B_⟩
                ·
                 replace c35 := Bool.eq_false_iff.mpr c35
                 subst c35
                 have H1 : ((instr_jumps.f ((rd_T77 t442 x50_2).f1)).bind fun t455 => (if t455 = true then (if ((rd_T77 t442 x50_2).f2) ≥ (x11_1.length : Int) then (instr_Check.j3 kj28 l1 a2 x10_2 x11_1 t442 (t442.length : Int) x50_2 true ((rd_T77 t442 x50_2).f0) ((rd_T77 t442 x50_2).f1) ((rd_T77 t442 x50_2).f2) ((rd_T77 t442 x50_2).f3)) else (if 0 ≤ ((rd_T77 t442 x50_2).f2) then (if ((rd_T77 t442 x50_2).f2) < (x11_1.length : Int) then (instr_Check.j3 kj28 l1 a2 x10_2 x11_1 t442 (t442.length : Int) x50_2 (!(rdOf false x11_1 ((rd_T77 t442 x50_2).f2))) ((rd_T77 t442 x50_2).f0) ((rd_T77 t442 x50_2).f1) ((rd_T77 t442 x50_2).f2) ((rd_T77 t442 x50_2).f3)) else (none)) else (none))) else (if ((rd_T77 t442 x50_2).f1) ≥ 38 then (instr_Check.j4 kj28 l1 a2 x11_1 t442 (t442.length : Int) x50_2 (decide (((rd_T77 t442 x50_2).f1) ≤ 41)) ((rd_T77 t442 x50_2).f0) ((rd_T77 t442 x50_2).f1) ((rd_T77 t442 x50_2).f2) ((rd_T77 t442 x50_2).f3)) else (instr_Check.j4 kj28 l1 a2 x11_1 t442 (t442.length : Int) x50_2 false ((rd_T77 t442 x50_2).f0) ((rd_T77 t442 x50_2).f1) ((rd_T77 t442 x50_2).f2) ((rd_T77 t442 x50_2).f3))))) = some (r1, r2) := by rw [if_neg (show ¬ (false = true) by decide)] at H; exact H
                 clear H
                 have H := H1
                 clear H1
                 replace H := Option.bind_eq_some_iff.mp H
                 obtain ⟨t455, A430, H⟩ := H
                 replace H : (if t455 = true then (if ((rd_T77 t442 x50_2).f2) ≥ (x11_1.length : Int) then (instr_Check.j3 kj28 l1 a2 x10_2 x11_1 t442 (t442.length : Int) x50_2 true ((rd_T77 t442 x50_2).f0) ((rd_T77 t442 x50_2).f1) ((rd_T77 t442 x50_2).f2) ((rd_T77 t442 x50_2).f3)) else (if 0 ≤ ((rd_T77 t442 x50_2).f2) then (if ((rd_T77 t442 x50_2).f2) < (x11_1.length : Int) then (instr_Check.j3 kj28 l1 a2 x10_2 x11_1 t442 (t442.length : Int) x50_2 (!(rdOf false x11_1 ((rd_T77 t442 x50_2).f2))) ((rd_T77 t442 x50_2).f0) ((rd_T77 t442 x50_2).f1) ((rd_T77 t442 x50_2).f2) ((rd_T77 t442 x50_2).f3)) else (none)) else (none))) else (if ((rd_T77 t442 x50_2).f1) ≥ 38 then (instr_Check.j4 kj28 l1 a2 x11_1 t442 (t442.length : Int) x50_2 (decide (((rd_T77 t442 x50_2).f1) ≤ 41)) ((rd_T77 t442 x50_2).f0) ((rd_T77 t442 x50_2).f1) ((rd_T77 t442 x50_2).f2) ((rd_T77 t442 x50_2).f3)) else (instr_Check.j4 kj28 l1 a2 x11_1 t442 (t442.length : Int) x50_2 false ((rd_T77 t442 x50_2).f0) ((rd_T77 t442 x50_2).f1) ((rd_T77 t442 x50_2).f2) ((rd_T77 t442 x50_2).f3)))) = some (r1, r2) := H
                 have A43 := Aside0.mk A430
                 clear A430
                 by_cases c44 : t455 = true
                 ·
                  subst c44
                  have H1 : (if ((rd_T77 t442 x50_2).f2) ≥ (x11_1.length : Int) then (instr_Check.j3 kj28 l1 a2 x10_2 x11_1 t442 (t442.length : Int) x50_2 true ((rd_T77 t442 x50_2).f0) ((rd_T77 t442 x50_2).f1) ((rd_T77 t442 x50_2).f2) ((rd_T77 t442 x50_2).f3)) else (if 0 ≤ ((rd_T77 t442 x50_2).f2) then (if ((rd_T77 t442 x50_2).f2) < (x11_1.length : Int) then (instr_Check.j3 kj28 l1 a2 x10_2 x11_1 t442 (t442.length : Int) x50_2 (!(rdOf false x11_1 ((rd_T77 t442 x50_2).f2))) ((rd_T77 t442 x50_2).f0) ((rd_T77 t442 x50_2).f1) ((rd_T77 t442 x50_2).f2) ((rd_T77 t442 x50_2).f3)) else (none)) else (none))) = some (r1, r2) := by rw [if_pos rfl] at H; exact H
                  clear H
                  have H := H1
                  clear H1
                  have HC45 := Aside0.mk H
                  clear H
                  obtain ⟨hcz46_0, hcz46_1, hcz46_2, hcz46_3, hfz46_0, hfz46_1, hfz46_2, hfz46_3⟩ := c4_ BK454.out
                  go_upto_region 22 with (first | ((with_reducible refine gt_ 64 ?_); refine gd_ 73 Tryd.func64 (instr_jumps.calls ((rd_T77 t442 x50_2).f1) true _ A43.out) ?_; rintro w' ⟨nd, rfl⟩))
                  (try simp only [Act.put, List.setIfInBounds_toArray, List.set_cons_zero, List.set_cons_succ])
                  go_cut [86] (fun v86 wc => ∃ (kq : Nat) (x86_44 : Bool), v86 = .bool x86_44 ∧ Aside0 (instr_Check.j3 kq l1 a2 x10_2 x11_1 t442 (t442.length : Int) x50_2 x86_44 ((rd_T77 t442 x50_2).f0) ((rd_T77 t442 x50_2).f1) ((rd_T77 t442 x50_2).f2) ((rd_T77 t442 x50_2).f3) = some (r1, r2)) ∧ Aside0 (kq ≤ kj28) ∧ Aside0 (Kd.R Kd.bool 4 wc w.heap.size (fun _ => True) v448 x11_1) ∧ Aside0 (Kd.R k77 77 wc w.heap.size (fun k_ => k_ ≠ gb454) (.slice (some ad453) t442.length co13) t442) ∧ Aside0 (wc.heap[gb454]? = some (.cells #[.int .i64 ((rd_T77 t442 x50_2).f0), .int .i64 ((rd_T77 t442 x50_2).f1), .int .i64 ((rd_T77 t442 x50_2).f2), .int .i64 ((rd_T77 t442 x50_2).f3)] 77 (0, 0))) ∧ Aside0 (Below w.heap.size w wc))
                  case first =>
                   have H := HC45.out
                   clear HC45
                   by_cases c47 : ((rd_T77 t442 x50_2).f2) ≥ (x11_1.length : Int)
                   ·
                    rw [if_pos c47] at H
                    have c47b0 : decide ((x11_1.length : Int) ≤ ((rd_T77 t442 x50_2).f2)) = true := decide_eq_true c47
                    clear c47
                    (first | rw [c47b0] | (simp only [i64_w, i32_w]; rw [c47b0]) | skip)
                    have H' := Aside0.mk H
                    clear H
                    obtain ⟨hcz48_0, hcz48_1, hcz48_2, hcz48_3, hfz48_0, hfz48_1, hfz48_2, hfz48_3⟩ := c4_ BK454.out
                    obtain ⟨Ao49, co49, eo49⟩ := Kd.R_slice HO_11.out
                    subst eo49
                    go_wp2
                    go_meet
                    case rel => exact ⟨_, (true), R_, H', ⟨by have := HK1.out; have := HK2.out; have := HJ28.out; first | omega | exact Nat.le_refl _⟩, ⟨by (with_reducible repeat (first | apply Kd.R_alloc | apply Kd.R_drewN | apply Kd.R_drew)); exact HO_11.out⟩, ⟨by (with_reducible repeat (first | apply Kd.R_alloc | apply Kd.R_drewN | apply Kd.R_drew)); exact HO_48.out⟩, ⟨M_⟩, ⟨B_⟩⟩
                   ·
                    rw [if_neg c47] at H
                    have c47b0 : decide ((x11_1.length : Int) ≤ ((rd_T77 t442 x50_2).f2)) = false := decide_eq_false c47
                    clear c47
                    (first | rw [c47b0] | (simp only [i64_w, i32_w]; rw [c47b0]) | skip)
                    by_cases c50 : 0 ≤ ((rd_T77 t442 x50_2).f2)
                    ·
                     rw [if_pos c50] at H
                     have c50b0 : decide (0 ≤ ((rd_T77 t442 x50_2).f2)) = true := decide_eq_true c50
                     clear c50
                     by_cases c51 : ((rd_T77 t442 x50_2).f2) < (x11_1.length : Int)
                     ·
                      rw [if_pos c51] at H
                      have c51b0 : decide (((rd_T77 t442 x50_2).f2) < (x11_1.length : Int)) = true := decide_eq_true c51
                      clear c51
                      have H' := Aside0.mk H
                      clear H
                      obtain ⟨hcz52_0, hcz52_1, hcz52_2, hcz52_3, hfz52_0, hfz52_1, hfz52_2, hfz52_3⟩ := c4_ BK454.out
                      obtain ⟨Ao53, co53, eo53⟩ := Kd.R_slice HO_11.out
                      subst eo53
                      have p456 : 0 ≤ (((rd_T77 t442 x50_2).f2) : Int) := of_decide_eq_true A_
                      have q456 : ((rd_T77 t442 x50_2).f2) < (x11_1.length : Int) := of_decide_eq_true A_
                      obtain ⟨ad456, e456, hx456_0⟩ := Kd.at_bool (Kd.R_reads' HO_11.out).2.2 ((rd_T77 t442 x50_2).f2) p456 q456
                      cases e456
                      replace p456 := eq_true p456
                      replace q456 := eq_true q456
                      go_wp2
                      go_meet
                      case rel => exact ⟨_, (!(rdOf false x11_1 ((rd_T77 t442 x50_2).f2))), R_, H', ⟨by have := HK1.out; have := HK2.out; have := HJ28.out; first | omega | exact Nat.le_refl _⟩, ⟨by (with_reducible repeat (first | apply Kd.R_alloc | apply Kd.R_drewN | apply Kd.R_drew)); exact HO_11.out⟩, ⟨by (with_reducible repeat (first | apply Kd.R_alloc | apply Kd.R_drewN | apply Kd.R_drew)); exact HO_48.out⟩, ⟨M_⟩, ⟨B_⟩⟩
                     ·
                      rw [if_neg c51] at H
                      exact absurd H (by simp)
                    ·
                     rw [if_neg c50] at H
                     exact absurd H (by simp)
                  case rest =>
                   clear HC45 hcz46_0 hcz46_1 hcz46_2 hcz46_3 hfz46_0 hfz46_1 hfz46_2 hfz46_3
                   obtain ⟨kq, x86_44, rfl, HA, HJ44, HO_11, HO_48, BK454, HB⟩ := hcut
                   cases kq with
                   | zero => exact absurd HA.out (by simp [instr_Check.j3])
                   | succ kj44 =>
                    have H := HA.out
                    clear HA
                    simp only [instr_Check.j3] at H
                    by_cases c54 : x86_44 = true
                    ·
                     subst c54
                     have H1 : (if 18 = 0 then (instr_Check.l1 kj44 l1 a2 18 x11_1 t442 (t442.length : Int) (wrap64 (x50_2 + 1))) else (some (((rd_T77 t442 x50_2).f0), 18))) = some (r1, r2) := by rw [if_pos rfl] at H; exact H
                     clear H
                     have H := H1
                     clear H1
                     by_cases c55 : 18 = 0
                     ·
                      exact absurd c55 (by decide)
                     ·
                      rw [if_neg c55] at H
                      have c55b0 : (18 == 0) = false := beq_eq_false_iff_ne.mpr c55
                      have c55b1 : (18 != 0) = true := bne_iff_ne.mpr c55
                      simp only [Option.some.injEq, Prod.mk.injEq] at H
                      obtain ⟨rfl, rfl⟩ := H
                      obtain ⟨hcz56_0, hcz56_1, hcz56_2, hcz56_3, hfz56_0, hfz56_1, hfz56_2, hfz56_3⟩ := c4_ BK454.out
                      go_wp2
                      go_ret2
                      exact ⟨E_, B_⟩
                    ·
                     replace c54 := Bool.eq_false_iff.mpr c54
                     subst c54
                     have H1 : (if x10_2 = 0 then (instr_Check.l1 kj44 l1 a2 x10_2 x11_1 t442 (t442.length : Int) (wrap64 (x50_2 + 1))) else (some (((rd_T77 t442 x50_2).f0), x10_2))) = some (r1, r2) := by rw [if_neg (show ¬ (false = true) by decide)] at H; exact H
                     clear H
                     have H := H1
                     clear H1
                     by_cases c57 : x10_2 = 0
                     ·
                      rw [if_pos c57] at H
                      have c57b0 : (x10_2 == 0) = true := beq_iff_eq.mpr c57
                      have c57b1 : (x10_2 != 0) = false := bne_eq_false_iff_eq.mpr c57
                      clear c57
                      have H' := Aside0.mk H
                      clear H
                      go_wp2
                      go_roundg kj44
                      case measure => have := HK1.out; have := HK2.out; have := HJ28.out; have := HJ44.out; omega
                      case rel => exact ⟨(x10_2), (wrap64 (x50_2 + 1)), R_, R_, H', ⟨by have := HK1.out; have := HK2.out; have := HJ28.out; have := HJ44.out; omega⟩, ⟨by (with_reducible repeat (first | apply Kd.R_alloc | apply Kd.R_drewN | apply Kd.R_drew)); exact HO_11.out⟩, ⟨by (with_reducible repeat (first | apply Kd.R_alloc | apply Kd.R_drewN | apply Kd.R_drew)); exact Kd.R_mono HO_48.out (fun _ hk => trivial)⟩, ⟨B_⟩⟩
                     ·
                      rw [if_neg c57] at H
                      have c57b0 : (x10_2 == 0) = false := beq_eq_false_iff_ne.mpr c57
                      have c57b1 : (x10_2 != 0) = true := bne_iff_ne.mpr c57
                      simp only [Option.some.injEq, Prod.mk.injEq] at H
                      obtain ⟨rfl, rfl⟩ := H
                      obtain ⟨hcz58_0, hcz58_1, hcz58_2, hcz58_3, hfz58_0, hfz58_1, hfz58_2, hfz58_3⟩ := c4_ BK454.out
                      go_wp2
                      go_ret2
                      exact ⟨E_, B_⟩
                 ·
                  replace c44 := Bool.eq_false_iff.mpr c44
                  subst c44
                  have H1 : (if ((rd_T77 t442 x50_2).f1) ≥ 38 then (instr_Check.j4 kj28 l1 a2 x11_1 t442 (t442.length : Int) x50_2 (decide (((rd_T77 t442 x50_2).f1) ≤ 41)) ((rd_T77 t442 x50_2).f0) ((rd_T77 t442 x50_2).f1) ((rd_T77 t442 x50_2).f2) ((rd_T77 t442 x50_2).f3)) else (instr_Check.j4 kj28 l1 a2 x11_1 t442 (t442.length : Int) x50_2 false ((rd_T77 t442 x50_2).f0) ((rd_T77 t442 x50_2).f1) ((rd_T77 t442 x50_2).f2) ((rd_T77 t442 x50_2).f3))) = some (r1, r2) := by rw [if_neg (show ¬ (false = true) by decide)] at H; exact H
                  clear H
                  have H := H1
                  clear H1
                  have HC59 := Aside0.mk H
                  clear H
                  obtain ⟨hcz60_0, hcz60_1, hcz60_2, hcz60_3, hfz60_0, hfz60_1, hfz60_2, hfz60_3⟩ := c4_ BK454.out
                  go_upto_region 24 with (first | ((with_reducible refine gt_ 64 ?_); refine gd_ 73 Tryd.func64 (instr_jumps.calls ((rd_T77 t442 x50_2).f1) false _ A43.out) ?_; rintro w' ⟨nd, rfl⟩))
                  (try simp only [Act.put, List.setIfInBounds_toArray, List.set_cons_zero, List.set_cons_succ])
                  go_cut [87] (fun v87 wc => ∃ (kq : Nat) (x87_58 : Bool), v87 = .bool x87_58 ∧ Aside0 (instr_Check.j4 kq l1 a2 x11_1 t442 (t442.length : Int) x50_2 x87_58 ((rd_T77 t442 x50_2).f0) ((rd_T77 t442 x50_2).f1) ((rd_T77 t442 x50_2).f2) ((rd_T77 t442 x50_2).f3) = some (r1, r2)) ∧ Aside0 (kq ≤ kj28) ∧ Aside0 (Kd.R Kd.bool 4 wc w.heap.size (fun _ => True) v448 x11_1) ∧ Aside0 (Kd.R k77 77 wc w.heap.size (fun k_ => k_ ≠ gb454) (.slice (some ad453) t442.length co13) t442) ∧ Aside0 (wc.heap[gb454]? = some (.cells #[.int .i64 ((rd_T77 t442 x50_2).f0), .int .i64 ((rd_T77 t442 x50_2).f1), .int .i64 ((rd_T77 t442 x50_2).f2), .int .i64 ((rd_T77 t442 x50_2).f3)] 77 (0, 0))) ∧ Aside0 (Below w.heap.size w wc))
                  case first =>
                   have H := HC59.out
                   clear HC59
                   by_cases c61 : ((rd_T77 t442 x50_2).f1) ≥ 38
                   ·
                    rw [if_pos c61] at H
                    have c61b0 : decide (38 ≤ ((rd_T77 t442 x50_2).f1)) = true := decide_eq_true c61
                    clear c61
                    (first | rw [c61b0] | (simp only [i64_w, i32_w]; rw [c61b0]) | skip)
                    have H' := Aside0.mk H
                    clear H
                    obtain ⟨hcz62_0, hcz62_1, hcz62_2, hcz62_3, hfz62_0, hfz62_1, hfz62_2, hfz62_3⟩ := c4_ BK454.out
                    go_wp2
                    go_meet
                    case rel => exact ⟨_, (decide (((rd_T77 t442 x50_2).f1) ≤ 41)), R_, H', ⟨by have := HK1.out; have := HK2.out; have := HJ28.out; first | omega | exact Nat.le_refl _⟩, ⟨by (with_reducible repeat (first | apply Kd.R_alloc | apply Kd.R_drewN | apply Kd.R_drew)); exact HO_11.out⟩, ⟨by (with_reducible repeat (first | apply Kd.R_alloc | apply Kd.R_drewN | apply Kd.R_drew)); exact HO_48.out⟩, ⟨M_⟩, ⟨B_⟩⟩
                   ·
                    rw [if_neg c61] at H
                    have c61b0 : decide (38 ≤ ((rd_T77 t442 x50_2).f1)) = false := decide_eq_false c61
                    clear c61
                    (first | rw [c61b0] | (simp only [i64_w, i32_w]; rw [c61b0]) | skip)
                    have H' := Aside0.mk H
                    clear H
                    obtain ⟨hcz63_0, hcz63_1, hcz63_2, hcz63_3, hfz63_0, hfz63_1, hfz63_2, hfz63_3⟩ := c4_ BK454.out
                    go_wp2
                    go_meet
                    case rel => exact ⟨_, (false), R_, H', ⟨by have := HK1.out; have := HK2.out; have := HJ28.out; first | omega | exact Nat.le_refl _⟩, ⟨by (with_reducible repeat (first | apply Kd.R_alloc | apply Kd.R_drewN | apply Kd.R_drew)); exact HO_11.out⟩, ⟨by (with_reducible repeat (first | apply Kd.R_alloc | apply Kd.R_drewN | apply Kd.R_drew)); exact HO_48.out⟩, ⟨M_⟩, ⟨B_⟩⟩
                  case rest =>
                   clear HC59 hcz60_0 hcz60_1 hcz60_2 hcz60_3 hfz60_0 hfz60_1 hfz60_2 hfz60_3
                   obtain ⟨kq, x87_58, rfl, HA, HJ58, HO_11, HO_48, BK454, HB⟩ := hcut
                   cases kq with
                   | zero => exact absurd HA.out (by simp [instr_Check.j4])
                   | succ kj58 =>
                    have H := HA.out
                    clear HA
                    simp only [instr_Check.j4] at H
                    by_cases c64 : x87_58 = true
                    ·
                     subst c64
                     have H1 : ((instr_calls.f kj58 ((rd_T77 t442 x50_2).f0) ((rd_T77 t442 x50_2).f1) ((rd_T77 t442 x50_2).f2) ((rd_T77 t442 x50_2).f3) l1).bind fun t457 => (if t457 = 0 then (instr_Check.l1 kj58 l1 a2 t457 x11_1 t442 (t442.length : Int) (wrap64 (x50_2 + 1))) else (some (((rd_T77 t442 x50_2).f0), t457)))) = some (r1, r2) := by rw [if_pos rfl] at H; exact H
                     clear H
                     have H := H1
                     clear H1
                     replace H := Option.bind_eq_some_iff.mp H
                     obtain ⟨t457, A650, H⟩ := H
                     replace H : (if t457 = 0 then (instr_Check.l1 kj58 l1 a2 t457 x11_1 t442 (t442.length : Int) (wrap64 (x50_2 + 1))) else (some (((rd_T77 t442 x50_2).f0), t457))) = some (r1, r2) := H
                     have A65 := Aside0.mk A650
                     clear A650
                     by_cases c66 : t457 = 0
                     ·
                      rw [if_pos c66] at H
                      have c66b0 : (t457 == 0) = true := beq_iff_eq.mpr c66
                      have c66b1 : (t457 != 0) = false := bne_eq_false_iff_eq.mpr c66
                      clear c66
                      have H' := Aside0.mk H
                      clear H
                      obtain ⟨hcz67_0, hcz67_1, hcz67_2, hcz67_3, hfz67_0, hfz67_1, hfz67_2, hfz67_3⟩ := c4_ BK454.out
                      go_wp2_with (first | ((with_reducible refine gt_ 65 ?_); refine gd_ 98 Tryd.func65 (instr_calls.calls kj58 ((rd_T77 t442 x50_2).f0) ((rd_T77 t442 x50_2).f1) ((rd_T77 t442 x50_2).f2) ((rd_T77 t442 x50_2).f3) _ _ l1 t457 _ (Y_ (Kd.C_below HR1.out HB.out)) HC1.out A65.out) ?_; intro w68 hb; have HO_11 := rb_ HO_11 hb; have HO_48 := rb_ HO_48 hb; have BK454 := kb_ BK454 hb; have HB := bs_ hb; (try clear hb); (try clear hb2); (try clear hk); (try clear hi)))
                      go_roundg kj58
                      case measure => have := HK1.out; have := HK2.out; have := HJ28.out; have := HJ58.out; omega
                      case rel => exact ⟨(t457), (wrap64 (x50_2 + 1)), R_, R_, H', ⟨by have := HK1.out; have := HK2.out; have := HJ28.out; have := HJ58.out; omega⟩, ⟨by (with_reducible repeat (first | apply Kd.R_alloc | apply Kd.R_drewN | apply Kd.R_drew)); exact HO_11.out⟩, ⟨by (with_reducible repeat (first | apply Kd.R_alloc | apply Kd.R_drewN | apply Kd.R_drew)); exact Kd.R_mono HO_48.out (fun _ hk => trivial)⟩, ⟨B_⟩⟩
                     ·
                      rw [if_neg c66] at H
                      have c66b0 : (t457 == 0) = false := beq_eq_false_iff_ne.mpr c66
                      have c66b1 : (t457 != 0) = true := bne_iff_ne.mpr c66
                      simp only [Option.some.injEq, Prod.mk.injEq] at H
                      obtain ⟨rfl, rfl⟩ := H
                      obtain ⟨hcz69_0, hcz69_1, hcz69_2, hcz69_3, hfz69_0, hfz69_1, hfz69_2, hfz69_3⟩ := c4_ BK454.out
                      go_wp2_with (first | ((with_reducible refine gt_ 65 ?_); refine gd_ 98 Tryd.func65 (instr_calls.calls kj58 ((rd_T77 t442 x50_2).f0) ((rd_T77 t442 x50_2).f1) ((rd_T77 t442 x50_2).f2) ((rd_T77 t442 x50_2).f3) _ _ l1 t457 _ (Y_ (Kd.C_below HR1.out HB.out)) HC1.out A65.out) ?_; intro w70 hb; have HO_11 := rb_ HO_11 hb; have HO_48 := rb_ HO_48 hb; have BK454 := kb_ BK454 hb; have HB := bs_ hb; (try clear hb); (try clear hb2); (try clear hk); (try clear hi); obtain ⟨hcz71_0, hcz71_1, hcz71_2, hcz71_3, hfz71_0, hfz71_1, hfz71_2, hfz71_3⟩ := c4_ BK454.out))
                      go_ret2
                      exact ⟨E_, B_⟩
                    ·
                     replace c64 := Bool.eq_false_iff.mpr c64
                     subst c64
                     have H1 : ((instr_asks.f kj58 ((rd_T77 t442 x50_2).f0) ((rd_T77 t442 x50_2).f1) ((rd_T77 t442 x50_2).f2) ((rd_T77 t442 x50_2).f3) l1).bind fun t458 => (if t458 = 0 then (instr_Check.l1 kj58 l1 a2 t458 x11_1 t442 (t442.length : Int) (wrap64 (x50_2 + 1))) else (some (((rd_T77 t442 x50_2).f0), t458)))) = some (r1, r2) := by rw [if_neg (show ¬ (false = true) by decide)] at H; exact H
                     clear H
                     have H := H1
                     clear H1
                     replace H := Option.bind_eq_some_iff.mp H
                     obtain ⟨t458, A720, H⟩ := H
                     replace H : (if t458 = 0 then (instr_Check.l1 kj58 l1 a2 t458 x11_1 t442 (t442.length : Int) (wrap64 (x50_2 + 1))) else (some (((rd_T77 t442 x50_2).f0), t458))) = some (r1, r2) := H
                     have A72 := Aside0.mk A720
                     clear A720
                     by_cases c73 : t458 = 0
                     ·
                      rw [if_pos c73] at H
                      have c73b0 : (t458 == 0) = true := beq_iff_eq.mpr c73
                      have c73b1 : (t458 != 0) = false := bne_eq_false_iff_eq.mpr c73
                      clear c73
                      have H' := Aside0.mk H
                      clear H
                      obtain ⟨hcz74_0, hcz74_1, hcz74_2, hcz74_3, hfz74_0, hfz74_1, hfz74_2, hfz74_3⟩ := c4_ BK454.out
                      go_wp2_with (first | ((with_reducible refine gt_ 66 ?_); refine gd_ 56 Tryd.func66 (instr_asks.calls kj58 ((rd_T77 t442 x50_2).f0) ((rd_T77 t442 x50_2).f1) ((rd_T77 t442 x50_2).f2) ((rd_T77 t442 x50_2).f3) _ _ l1 t458 _ (Y_ (Kd.C_below HR1.out HB.out)) HC1.out A72.out) ?_; intro w75 hb; have HO_11 := rb_ HO_11 hb; have HO_48 := rb_ HO_48 hb; have BK454 := kb_ BK454 hb; have HB := bs_ hb; (try clear hb); (try clear hb2); (try clear hk); (try clear hi)))
                      go_roundg kj58
                      case measure => have := HK1.out; have := HK2.out; have := HJ28.out; have := HJ58.out; omega
                      case rel => exact ⟨(t458), (wrap64 (x50_2 + 1)), R_, R_, H', ⟨by have := HK1.out; have := HK2.out; have := HJ28.out; have := HJ58.out; omega⟩, ⟨by (with_reducible repeat (first | apply Kd.R_alloc | apply Kd.R_drewN | apply Kd.R_drew)); exact HO_11.out⟩, ⟨by (with_reducible repeat (first | apply Kd.R_alloc | apply Kd.R_drewN | apply Kd.R_drew)); exact Kd.R_mono HO_48.out (fun _ hk => trivial)⟩, ⟨B_⟩⟩
                     ·
                      rw [if_neg c73] at H
                      have c73b0 : (t458 == 0) = false := beq_eq_false_iff_ne.mpr c73
                      have c73b1 : (t458 != 0) = true := bne_iff_ne.mpr c73
                      simp only [Option.some.injEq, Prod.mk.injEq] at H
                      obtain ⟨rfl, rfl⟩ := H
                      obtain ⟨hcz76_0, hcz76_1, hcz76_2, hcz76_3, hfz76_0, hfz76_1, hfz76_2, hfz76_3⟩ := c4_ BK454.out
                      go_wp2_with (first | ((with_reducible refine gt_ 66 ?_); refine gd_ 56 Tryd.func66 (instr_asks.calls kj58 ((rd_T77 t442 x50_2).f0) ((rd_T77 t442 x50_2).f1) ((rd_T77 t442 x50_2).f2) ((rd_T77 t442 x50_2).f3) _ _ l1 t458 _ (Y_ (Kd.C_below HR1.out HB.out)) HC1.out A72.out) ?_; intro w77 hb; have HO_11 := rb_ HO_11 hb; have HO_48 := rb_ HO_48 hb; have BK454 := kb_ BK454 hb; have HB := bs_ hb; (try clear hb); (try clear hb2); (try clear hk); (try clear hi); obtain ⟨hcz78_0, hcz78_1, hcz78_2, hcz78_3, hfz78_0, hfz78_1, hfz78_2, hfz78_3⟩ := c4_ BK454.out))
                      go_ret2
                      exact ⟨E_, B_⟩
             ·
              rw [if_neg c28] at H
              exact absurd H (by simp)
            ·
             rw [if_neg c27] at H
             exact absurd H (by simp)
           ·
            rw [if_neg c26] at H
            have c26b0 : decide (x50_2 < (t442.length : Int)) = false := decide_eq_false c26
            clear c26
            simp only [Option.some.injEq, Prod.mk.injEq] at H
            obtain ⟨rfl, rfl⟩ := H
            go_wp2
            go_ret2
            exact ⟨E_, B_⟩
     ·
      rw [if_neg c9] at H
      exact absurd H (by simp)
    ·
     rw [if_neg c8] at H
     exact absurd H (by simp)
   ·
    rw [if_neg c7] at H
    have c7b0 : (t444 == 0) = false := beq_eq_false_iff_ne.mpr c7
    have c7b1 : (t444 != 0) = true := bne_iff_ne.mpr c7
    simp only [Option.some.injEq, Prod.mk.injEq] at H
    obtain ⟨rfl, rfl⟩ := H
    go_enter Tryd.func33, Tryd.ntmps33
    go_wp2_with (first | ((with_reducible refine gt_ 35 ?_); refine gc_ 26 Tryd.func35 #[.slice A0 l0.length c0] ?_; (with_reducible refine (instr_All.calls k _ _ l0 t442 t443 t444 _ ?side1 ?side2 A6.out).mono ?_); (case side1 => exact Y_ HR0.out); (case side2 => exact HC0.out); rintro e w79 ⟨v445, rfl, ho0, hb⟩; refine ⟨_, rfl, ?_⟩; have HO446 := Aside0.mk (Kd.R_lower ho0 (below_size B_)); have HB := bs_ hb; (try clear hb); (try clear hb2); (try clear hk); (try clear hi); (try clear ho0)))
    go_ret2
    exact ⟨E_, B_⟩
end Go.Proofs.YtldejfkplnejjaaDoor.P
