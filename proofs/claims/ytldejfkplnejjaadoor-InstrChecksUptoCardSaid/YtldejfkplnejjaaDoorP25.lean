-- Written by my program xprint.py (a patched run of the kit's print). Lean checks it.
import Derived.Test.YtldejfkplnejjaaDoorP0
import Derived.Test.YtldejfkplnejjaaDoorP14
import Derived.Test.YtldejfkplnejjaaDoorP15
import Derived.Test.YtldejfkplnejjaaDoorP24
import Derived.Test.YtldejfkplnejjaaDoorExt
import Derived.Test.YtldejfkplnejjaaDoorShort
import Derived.Test.YtldejfkplnejjaaDoorShort2
namespace Go.Proofs.YtldejfkplnejjaaDoor.P
open Go.RowKit Go.Proofs.YtldejfkplnejjaaDoorW.PrintWords Go.Proofs.YtldejfkplnejjaaDoorW.PrintLast Go.Proofs.YtldejfkplnejjaaDoorW.PrintMore
attribute [local go_sem] max2_int min2_int max_two min_two max_three min_three max_four min_four   -- for this text's walks alone
set_option linter.unusedVariables false
set_option linter.unusedSimpArgs false
def keystonelaw4_InstrChecks.j0 : Nat → List Int → List (S50) → Int → Bool → Option (Bool)
 | 0, _, _, _, _ => none
 | k + 1, x0, x1, x2, x20 => if x20 = true then (some true) else ((some (([] : List Int) : List Int)).bind fun y669 => (if y669.length + x0.length < 140737488355328 then ((some (([] : List (S50)) : List (S50))).bind fun y675 => (if y675.length + x1.length < 2513169434916 then ((instr_Check.f k (y669 ++ x0) (y675 ++ x1) x2).bind fun bt681 => ((keystoneref4_Check.f k x0 x1 x2).bind fun bt683 => (if bt681.1 = bt683.1 then (some (bt681.2 == bt683.2)) else (some false)))) else (none))) else (none)))
def keystonelaw4_InstrChecks.f (k : Nat) (l0 : List Int) (l1 : List (S50)) (a2 : Int) : Option (Bool) := (keystonelaw4_known.f k).bind fun t668 => (if t668 = true then (if (l0.length : Int) > 1100 then (keystonelaw4_InstrChecks.j0 k l0 l1 a2 true) else (keystonelaw4_InstrChecks.j0 k l0 l1 a2 (decide ((l1.length : Int) > 400)))) else (some false))
theorem keystonelaw4_InstrChecks.mono_l : ∀ k, (∀ y0 y1 y2 y3, LeO (keystonelaw4_InstrChecks.j0 k y0 y1 y2 y3) (keystonelaw4_InstrChecks.j0 (k + 1) y0 y1 y2 y3))
 | 0 => fun _ _ _ _ r h => by simp [keystonelaw4_InstrChecks.j0] at h
 | k + 1 => by
  have ih0 := keystonelaw4_InstrChecks.mono_l k
  ·
   intro y0 y1 y2 y3
   unfold keystonelaw4_InstrChecks.j0
   repeat' first
   | (with_reducible exact ih0 _ _ _ _)
   | (with_reducible exact instr_Check.mono _ _ _ _)
   | (with_reducible exact keystonelaw4_known.mono _)
   | (with_reducible exact keystoneref4_Check.mono _ _ _ _)
   | (with_reducible exact LeO.refl _)
   | (with_reducible exact LeO.none _)
   | (with_reducible refine LeO.ite ?_ ?_)
   | (with_reducible refine LeO.bind ?_ (fun _ => ?_))
   | exact ih0 _ _ _ _
   | exact instr_Check.mono _ _ _ _
   | exact keystonelaw4_known.mono _
   | exact keystoneref4_Check.mono _ _ _ _
   | exact LeO.none _
   | refine LeO.ite ?_ ?_
   | refine LeO.bind ?_ (fun _ => ?_)
theorem keystonelaw4_InstrChecks.mono : ∀ a0 a1 a2 k, LeO (keystonelaw4_InstrChecks.f k a0 a1 a2) (keystonelaw4_InstrChecks.f (k + 1) a0 a1 a2) := by
 intro a0 a1 a2 k
 have ih0 := keystonelaw4_InstrChecks.mono_l k
 unfold keystonelaw4_InstrChecks.f
 repeat' first
  | (with_reducible exact ih0 _ _ _ _)
  | (with_reducible exact instr_Check.mono _ _ _ _)
  | (with_reducible exact keystonelaw4_known.mono _)
  | (with_reducible exact keystoneref4_Check.mono _ _ _ _)
  | (with_reducible exact LeO.refl _)
  | (with_reducible exact LeO.none _)
  | (with_reducible refine LeO.ite ?_ ?_)
  | (with_reducible refine LeO.bind ?_ (fun _ => ?_))
  | exact ih0 _ _ _ _
  | exact instr_Check.mono _ _ _ _
  | exact keystonelaw4_known.mono _
  | exact keystoneref4_Check.mono _ _ _ _
  | exact LeO.none _
  | refine LeO.ite ?_ ?_
  | refine LeO.bind ?_ (fun _ => ?_)
set_option maxHeartbeats 8000000 in
set_option maxRecDepth 100000 in
theorem keystonelaw4_InstrChecks.calls (k : Nat) (A0 : Option Addr) (c0 : Nat) (l0 : List Int) (A1 : Option Addr) (c1 : Nat) (l1 : List (S50)) (a2 : Int) (r : Bool) (w : World) (hr0 : Kd.C (Kd.int .u8) w A0 l0.length l0) (hc0 : l0.length ≤ c0) (hr1 : Kd.C k50 w A1 l1.length l1) (hc1 : l1.length ≤ c1) (hG : Glob w) (hT : r = true) (h : keystonelaw4_InstrChecks.f k l0 l1 a2 = some r) :
 Calls Tryd.prog 11 #[.slice A0 l0.length c0, .slice A1 l1.length c1, .int .i64 a2] w fun e w' => e = .returned (.bool r) ∧ Below w.heap.size w w' := by
 have HR0 := Aside0.mk hr0
 have HC0 := Aside0.mk hc0
 clear hr0 hc0
 have HR1 := Aside0.mk hr1
 have HC1 := Aside0.mk hc1
 clear hr1 hc1
 have HB := Aside0.mk (Below.refl w.heap.size w)
 have H : ((keystonelaw4_known.f k).bind fun t668 => (if t668 = true then (if (l0.length : Int) > 1100 then (keystonelaw4_InstrChecks.j0 k l0 l1 a2 true) else (keystonelaw4_InstrChecks.j0 k l0 l1 a2 (decide ((l1.length : Int) > 400)))) else (some false))) = some r := h
 clear h
 have HG := Aside0.mk hG
 clear hG
 have HT := Aside0.mk hT
 clear hT
 replace H := Option.bind_eq_some_iff.mp H
 obtain ⟨t668, A40, H⟩ := H
 replace H : (if t668 = true then (if (l0.length : Int) > 1100 then (keystonelaw4_InstrChecks.j0 k l0 l1 a2 true) else (keystonelaw4_InstrChecks.j0 k l0 l1 a2 (decide ((l1.length : Int) > 400)))) else (some false)) = some r := H
 have A4 := Aside0.mk A40
 clear A40
 by_cases c5 : t668 = true
 ·
  subst c5
  have H1 : (if (l0.length : Int) > 1100 then (keystonelaw4_InstrChecks.j0 k l0 l1 a2 true) else (keystonelaw4_InstrChecks.j0 k l0 l1 a2 (decide ((l1.length : Int) > 400)))) = some r := by rw [if_pos rfl] at H; exact H
  clear H
  have H := H1
  clear H1
  have HC6 := Aside0.mk H
  clear H
  go_enter Tryd.func11, Tryd.ntmps11
  go_upto_region 3 with (first | ((with_reducible refine gt_ 32 ?_); refine gd_ 11 Tryd.func32 (keystonelaw4_known.calls k  true _ (HG.out.below B_) A4.out) ?_; intro w7 hb; have HB := bs_ hb; (try clear hb); (try clear hb2); (try clear hk); (try clear hi)))
  (try simp only [Act.put, List.setIfInBounds_toArray, List.set_cons_zero, List.set_cons_succ])
  go_cut [20] (fun v20 wc => ∃ (kq : Nat) (x20_5 : Bool), v20 = .bool x20_5 ∧ Aside0 (keystonelaw4_InstrChecks.j0 kq l0 l1 a2 x20_5 = some r) ∧ Aside0 (kq ≤ k) ∧ Aside0 (Below w.heap.size w wc))
  case first =>
   have H := HC6.out
   clear HC6
   by_cases c8 : (l0.length : Int) > 1100
   ·
    rw [if_pos c8] at H
    have c8b0 : decide (1100 < (l0.length : Int)) = true := decide_eq_true c8
    have c8b1 : decide (1100 < l0.length) = true := decide_eq_true (by omega)
    clear c8
    (first | rw [c8b0] | (simp only [i64_w, i32_w]; rw [c8b0]) | skip)
    have H' := Aside0.mk H
    clear H
    go_wp2
    go_meet
    case rel => exact ⟨_, (true), R_, H', ⟨by first | omega | exact Nat.le_refl _⟩, ⟨B_⟩⟩
   ·
    rw [if_neg c8] at H
    have c8b0 : decide (1100 < (l0.length : Int)) = false := decide_eq_false c8
    have c8b1 : decide (1100 < l0.length) = false := decide_eq_false (by omega)
    clear c8
    (first | rw [c8b0] | (simp only [i64_w, i32_w]; rw [c8b0]) | skip)
    have H' := Aside0.mk H
    clear H
    go_wp2
    go_meet
    case rel => exact ⟨_, (decide ((l1.length : Int) > 400)), R_, H', ⟨by first | omega | exact Nat.le_refl _⟩, ⟨B_⟩⟩
  case rest =>
   clear HC6
   obtain ⟨kq, x20_5, rfl, HA, HJ5, HB⟩ := hcut
   cases kq with
   | zero => exact absurd HA.out (by simp [keystonelaw4_InstrChecks.j0])
   | succ kj5 =>
    have H := HA.out
    clear HA
    simp only [keystonelaw4_InstrChecks.j0] at H
    by_cases c9 : x20_5 = true
    ·
     subst c9
     have H1 : (some true) = some r := by rw [if_pos rfl] at H; exact H
     clear H
     have H := H1
     clear H1
     obtain rfl := Option.some.inj H
     go_wp2
     go_ret
     exact ⟨E_, B_⟩
    ·
     replace c9 := Bool.eq_false_iff.mpr c9
     subst c9
     have H1 : ((some (([] : List Int) : List Int)).bind fun y669 => (if y669.length + l0.length < 140737488355328 then ((some (([] : List (S50)) : List (S50))).bind fun y675 => (if y675.length + l1.length < 2513169434916 then ((instr_Check.f kj5 (y669 ++ l0) (y675 ++ l1) a2).bind fun bt681 => ((keystoneref4_Check.f kj5 l0 l1 a2).bind fun bt683 => (if bt681.1 = bt683.1 then (some (bt681.2 == bt683.2)) else (some false)))) else (none))) else (none))) = some r := by rw [if_neg (show ¬ (false = true) by decide)] at H; exact H
     clear H
     have H := H1
     clear H1
     obtain ⟨y669, hy669⟩ : ∃ y_ : List Int, y_ = (([] : List Int)) := ⟨_, rfl⟩
     replace H : (if y669.length + l0.length < 140737488355328 then ((some (([] : List (S50)) : List (S50))).bind fun y675 => (if y675.length + l1.length < 2513169434916 then ((instr_Check.f kj5 (y669 ++ l0) (y675 ++ l1) a2).bind fun bt681 => ((keystoneref4_Check.f kj5 l0 l1 a2).bind fun bt683 => (if bt681.1 = bt683.1 then (some (bt681.2 == bt683.2)) else (some false)))) else (none))) else (none)) = some r := by first | (rw [hy669]; with_reducible exact H) | (have H2_ := (Option.bind_some _ _).symm.trans H; rw [hy669]; with_reducible exact H2_) | (have H2_ := (Option.bind_some _ _).symm.trans H; with_reducible exact H2_) | with_reducible exact H | (rw [hy669]; exact H) | exact H
     have Ny669 := Aside0.mk hy669
     clear hy669
     by_cases c10 : y669.length + l0.length < 140737488355328
     ·
      rw [if_pos c10] at H
      have LMc10 := Aside0.mk c10
      clear c10
      obtain ⟨y672, hy672⟩ : ∃ y_ : List Int, y_ = (y669 ++ l0) := ⟨_, rfl⟩
      replace H : ((some (([] : List (S50)) : List (S50))).bind fun y675 => (if y675.length + l1.length < 2513169434916 then ((instr_Check.f kj5 y672 (y675 ++ l1) a2).bind fun bt681 => ((keystoneref4_Check.f kj5 l0 l1 a2).bind fun bt683 => (if bt681.1 = bt683.1 then (some (bt681.2 == bt683.2)) else (some false)))) else (none))) = some r := by first | (rw [hy672]; with_reducible exact H) | (have H2_ := (Option.bind_some _ _).symm.trans H; rw [hy672]; with_reducible exact H2_) | (have H2_ := (Option.bind_some _ _).symm.trans H; with_reducible exact H2_) | with_reducible exact H | (rw [hy672]; exact H) | exact H
      have Ny672 := Aside0.mk hy672
      clear hy672
      obtain ⟨y675, hy675⟩ : ∃ y_ : List (S50), y_ = (([] : List (S50))) := ⟨_, rfl⟩
      replace H : (if y675.length + l1.length < 2513169434916 then ((instr_Check.f kj5 y672 (y675 ++ l1) a2).bind fun bt681 => ((keystoneref4_Check.f kj5 l0 l1 a2).bind fun bt683 => (if bt681.1 = bt683.1 then (some (bt681.2 == bt683.2)) else (some false)))) else (none)) = some r := by first | (rw [hy675]; with_reducible exact H) | (have H2_ := (Option.bind_some _ _).symm.trans H; rw [hy675]; with_reducible exact H2_) | (have H2_ := (Option.bind_some _ _).symm.trans H; with_reducible exact H2_) | with_reducible exact H | (rw [hy675]; exact H) | exact H
      have Ny675 := Aside0.mk hy675
      clear hy675
      by_cases c11 : y675.length + l1.length < 2513169434916
      ·
       rw [if_pos c11] at H
       have LMc11 := Aside0.mk c11
       clear c11
       obtain ⟨y678, hy678⟩ : ∃ y_ : List (S50), y_ = (y675 ++ l1) := ⟨_, rfl⟩
       replace H : ((instr_Check.f kj5 y672 y678 a2).bind fun bt681 => ((keystoneref4_Check.f kj5 l0 l1 a2).bind fun bt683 => (if bt681.1 = bt683.1 then (some (bt681.2 == bt683.2)) else (some false)))) = some r := by first | (rw [hy678]; with_reducible exact H) | (have H2_ := (Option.bind_some _ _).symm.trans H; rw [hy678]; with_reducible exact H2_) | (have H2_ := (Option.bind_some _ _).symm.trans H; with_reducible exact H2_) | with_reducible exact H | (rw [hy678]; exact H) | exact H
       have Ny678 := Aside0.mk hy678
       clear hy678
       replace H := Option.bind_eq_some_iff.mp H
       obtain ⟨⟨t681, t682⟩, A120, H⟩ := H
       replace H : ((keystoneref4_Check.f kj5 l0 l1 a2).bind fun bt683 => (if t681 = bt683.1 then (some (t682 == bt683.2)) else (some false))) = some r := H
       have A12 := Aside0.mk A120
       clear A120
       replace H := Option.bind_eq_some_iff.mp H
       obtain ⟨⟨t683, t684⟩, A130, H⟩ := H
       replace H : (if t681 = t683 then (some (t682 == t684)) else (some false)) = some r := H
       have A13 := Aside0.mk A130
       clear A130
       by_cases c14 : t681 = t683
       ·
        rw [if_pos c14] at H
        have c14b0 : (t681 == t683) = true := beq_iff_eq.mpr c14
        have c14b1 : (t681 != t683) = false := bne_eq_false_iff_eq.mpr c14
        clear c14
        obtain rfl := Option.some.inj H
        go_wp2_with (first | ((with_reducible refine d_ 22 ?_); (try (refine gate_guard (by rfl) ?_; dsimp only)); refine Kd.R_lit (Kd.int .u8) _ 5 ?hg (N := 22) ?hd (xs := ([] : List Int)) (inner := []) (ok := fun _ => True) (okp := fun _ => True) ?hr ?hp (fun _ hk => hk) trivial (Below.refl _ _) (Nat.le_refl _) (by simp) ?_; (case hd => rfl); (case hg => rfl); (case hr => first | (go_simp; done) | (go_simp; rfl)); (case hp => exact (Reps.none _ _)); intro v670 w15 ho16 hb hg_ hnew_; clear hg_ hnew_; (first | rw [← Ny669.out] at ho16 | (simp only [Int.reduceToNat] at ho16; rw [← Ny669.out] at ho16)); have HO671 := Aside0.mk (Kd.R_lower ho16 (below_size B_)); have HB := bs_ hb; clear hb ho16) | ((with_reducible refine gate_builtin (b := .append) (xs := #[.tmp 22, .tmp 23]) rfl ?_); (try (refine gate_guard (by rfl) ?_; dsimp only)); at_builtin; refine Kd.R_append_rows (Kd.int .u8) (w0 := w) w.heap.size rfl (.tmp 22) (.tmp 23) 69 5 (.int .u8 0) 1 rfl Tryd.underlying69 info5 rfl (by decide) (by omega) v670 y669 l0 _ _ _ (fun _ => True) (fun _ => False) rfl rfl ?aO ?aR (fun _ _ h => h) (fun _ h => h.elim) ?aF ?aB ?aS ?aL ?_; (case aR => repeat (first | exact (Kd.C_below HR0.out HB.out) | (with_reducible refine Kd.C_alloc ?_ _) | (with_reducible refine Kd.C_drewN ?_ _) | (with_reducible refine Kd.C_drew ?_))); (case aB => exact B_); (case aF => exact (fun _ _ => trivial)); (case aO => exact (Q_ HO671.out)); (case aS => exact (below_size B_)); (case aL => have := LMc10.out; omega); intro v673 w17 ho hb hg hat; rw [← Ny672.out] at ho; have HO674 := Aside0.mk (ho); have HB := Aside0.mk (hb); clear HO671; clear ho hb hg hat) | ((with_reducible refine d_ 25 ?_); (try (refine gate_guard (by rfl) ?_; dsimp only)); refine Kd.R_lit k50 _ 50 ?hg (N := 25) ?hd (xs := ([] : List (S50))) (inner := []) (ok := fun _ => True) (okp := fun _ => True) ?hr ?hp (fun _ hk => hk) trivial (Below.refl _ _) (Nat.le_refl _) (by simp) ?_; (case hd => rfl); (case hg => rfl); (case hr => first | (go_simp; done) | (go_simp; rfl)); (case hp => exact (Reps.none _ _)); intro v676 w18 ho19 hb hg_ hnew_; clear hg_ hnew_; (first | rw [← Ny675.out] at ho19 | (simp only [Int.reduceToNat] at ho19; rw [← Ny675.out] at ho19)); have HO674 := rb_ HO674 hb; have HO677 := Aside0.mk (Kd.R_lower ho19 (below_size B_)); have HB := bs_ hb; clear hb ho19) | ((with_reducible refine gate_builtin (b := .append) (xs := #[.tmp 25, .tmp 26]) rfl ?_); (try (refine gate_guard (by rfl) ?_; dsimp only)); at_builtin; refine Kd.R_append_rows k50 (w0 := w) w.heap.size rfl (.tmp 25) (.tmp 26) 22 50 (.agg #[(.int .i64 0), (.string ⟨#[]⟩), (.int .i64 0), (.int .i64 0), (.int .i64 0), (.int .i64 0)]) 56 rfl Tryd.underlying22 info50 rfl (by decide) (by omega) v676 y675 l1 _ _ _ (fun _ => True) (fun _ => False) rfl rfl ?aO ?aR (fun _ _ h => h) (fun _ h => h.elim) ?aF ?aB ?aS ?aL ?_; (case aR => repeat (first | exact (Kd.C_below HR1.out HB.out) | (with_reducible refine Kd.C_alloc ?_ _) | (with_reducible refine Kd.C_drewN ?_ _) | (with_reducible refine Kd.C_drew ?_))); (case aB => exact B_); (case aF => exact (fun _ _ => trivial)); (case aO => exact (Q_ HO677.out)); (case aS => exact (below_size B_)); (case aL => have := LMc11.out; omega); intro v679 w20 ho hb hg hat; rw [← Ny678.out] at ho; have HO674 := Aside0.mk (Kd.R_over' (Q_ HO674.out) (Kd.R_typed (Q_ HO677.out)) (by decide) hg); have HO680 := Aside0.mk (ho); have HB := Aside0.mk (hb); clear HO677; clear ho hb hg hat; obtain ⟨Ao21, co21, eo21⟩ := Kd.R_slice HO674.out; subst eo21; obtain ⟨Ao22, co22, eo22⟩ := Kd.R_slice HO680.out; subst eo22) | ((with_reducible refine gt_ 33 ?_); refine gc_ 29 Tryd.func33 #[.slice Ao21 y672.length co21, .slice Ao22 y678.length co22, .int .i64 a2] ?_; (with_reducible refine (instr_Check.calls kj5 _ _ y672 _ _ y678 a2 t681 t682 _ ?side1 ?side2 ?side3 ?side4 A12.out).mono ?_); (case side1 => repeat (first | exact (Kd.R_reads' HO674.out).2.2 | (with_reducible refine Kd.C_alloc ?_ _) | (with_reducible refine Kd.C_drewN ?_ _) | (with_reducible refine Kd.C_drew ?_))); (case side2 => exact (Kd.R_reads' HO674.out).2.1); (case side3 => repeat (first | exact (Kd.R_reads' HO680.out).2.2 | (with_reducible refine Kd.C_alloc ?_ _) | (with_reducible refine Kd.C_drewN ?_ _) | (with_reducible refine Kd.C_drew ?_))); (case side4 => exact (Kd.R_reads' HO680.out).2.1); rintro e w23 ⟨rfl, hb⟩; refine ⟨_, rfl, ?_⟩; have HO674 := rb_ HO674 hb; have HO680 := rb_ HO680 hb; have HB := bs_ hb; (try clear hb); (try clear hb2); (try clear hk); (try clear hi)) | ((with_reducible refine gt_ 34 ?_); refine gd_ 36 Tryd.func34 (keystoneref4_Check.calls kj5 _ _ l0 _ _ l1 a2 t683 t684 _ (Y_ (Kd.C_below HR0.out HB.out)) HC0.out (Y_ (Kd.C_below HR1.out HB.out)) HC1.out A13.out) ?_; intro w24 hb; have HO674 := rb_ HO674 hb; have HO680 := rb_ HO680 hb; have HB := bs_ hb; (try clear hb); (try clear hb2); (try clear hk); (try clear hi)))
        go_ret
        exact ⟨E_, B_⟩
       ·
        rw [if_neg c14] at H
        have c14b0 : (t681 == t683) = false := beq_eq_false_iff_ne.mpr c14
        have c14b1 : (t681 != t683) = true := bne_iff_ne.mpr c14
        obtain rfl := Option.some.inj H
        exact absurd HT.out (by decide)
      ·
       rw [if_neg c11] at H
       exact absurd H (by simp)
     ·
      rw [if_neg c10] at H
      exact absurd H (by simp)
 ·
  replace c5 := Bool.eq_false_iff.mpr c5
  subst c5
  have H1 : (some false) = some r := by rw [if_neg (show ¬ (false = true) by decide)] at H; exact H
  clear H
  have H := H1
  clear H1
  obtain rfl := Option.some.inj H
  exact absurd HT.out (by decide)
end Go.Proofs.YtldejfkplnejjaaDoor.P
