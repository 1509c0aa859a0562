-- Written by my program xprint.py (a patched run of the kit's print). Lean checks it.
import Derived.Test.YtldejfkplnejjaaDoorP0
import Derived.Test.YtldejfkplnejjaaDoorP13
import Derived.Test.YtldejfkplnejjaaDoorExt
import Derived.Test.YtldejfkplnejjaaDoorShort
namespace Go.Proofs.YtldejfkplnejjaaDoor.P
open Go.RowKit Go.Proofs.YtldejfkplnejjaaDoorW.PrintWords Go.Proofs.YtldejfkplnejjaaDoorW.PrintLast Go.Proofs.YtldejfkplnejjaaDoorW.PrintMore
attribute [local go_sem] max2_int min2_int max_two min_two max_three min_three max_four min_four   -- for this text's walks alone
set_option linter.unusedVariables false
set_option linter.unusedSimpArgs false

/-! ### instr_Next: function 36 -/
def instr_Next.j0 : Nat → Int → Bool → Int → Int → Int → Int → Option (List Int)
  | 0, _, _, _, _, _, _ => none
  | k + 1, x3, x9, x474000, x474001, x474002, x474003 => if x9 = true then (some ([] : List Int)) else (if x474001 = 19 then (some (([x474002] : List Int))) else ((instr_jumps.f x474001).bind fun t478 => (if t478 = true then (if x474002 = x3 then (some (([x3] : List Int))) else (some (([x3, x474002] : List Int)))) else (some (([x3] : List Int))))))
def instr_Next.f (k : Nat) (a0_0 : Int) (a0_1 : Int) (a0_2 : Int) (a0_3 : Int) : Option (List Int) := (instr_Size.f k a0_1).bind fun t474 => (if t474 = 0 then (instr_Next.j0 k (wrap64 (a0_0 + a0_3)) true a0_0 a0_1 a0_2 a0_3) else (if a0_1 = 42 then (instr_Next.j0 k (wrap64 (a0_0 + a0_3)) true a0_0 a0_1 a0_2 a0_3) else (if a0_1 = 43 then (instr_Next.j0 k (wrap64 (a0_0 + a0_3)) true a0_0 a0_1 a0_2 a0_3) else (instr_Next.j0 k (wrap64 (a0_0 + a0_3)) (a0_1 == 44) a0_0 a0_1 a0_2 a0_3))))
theorem instr_Next.mono_l : ∀ k, (∀ y0 y1 y2 y3 y4 y5, LeO (instr_Next.j0 k y0 y1 y2 y3 y4 y5) (instr_Next.j0 (k + 1) y0 y1 y2 y3 y4 y5))
  | 0 => fun _ _ _ _ _ _ r h => by simp [instr_Next.j0] at h
  | k + 1 => by
    have ih0 := instr_Next.mono_l k
    · intro y0 y1 y2 y3 y4 y5
      unfold instr_Next.j0
      repeat' first
      | (with_reducible exact ih0 _ _ _ _ _ _)
      | (with_reducible exact instr_Size.mono _ _)
      | (with_reducible exact LeO.refl _)
      | (with_reducible exact LeO.none _)
      | (with_reducible refine LeO.ite ?_ ?_)
      | (with_reducible refine LeO.bind ?_ (fun _ => ?_))
      | exact ih0 _ _ _ _ _ _
      | exact instr_Size.mono _ _
      | exact LeO.none _
      | refine LeO.ite ?_ ?_
      | refine LeO.bind ?_ (fun _ => ?_)
theorem instr_Next.mono : ∀ a0 a1 a2 a3 k, LeO (instr_Next.f k a0 a1 a2 a3) (instr_Next.f (k + 1) a0 a1 a2 a3) := by
  intro a0 a1 a2 a3 k
  have ih0 := instr_Next.mono_l k
  unfold instr_Next.f
  repeat' first
      | (with_reducible exact ih0 _ _ _ _ _ _)
      | (with_reducible exact instr_Size.mono _ _)
      | (with_reducible exact LeO.refl _)
      | (with_reducible exact LeO.none _)
      | (with_reducible refine LeO.ite ?_ ?_)
      | (with_reducible refine LeO.bind ?_ (fun _ => ?_))
      | exact ih0 _ _ _ _ _ _
      | exact instr_Size.mono _ _
      | exact LeO.none _
      | refine LeO.ite ?_ ?_
      | refine LeO.bind ?_ (fun _ => ?_)
set_option maxHeartbeats 8000000 in
set_option maxRecDepth 100000 in
theorem instr_Next.calls (k : Nat) (a0_0 : Int) (a0_1 : Int) (a0_2 : Int) (a0_3 : Int) (r : List Int) (w : World) (h : instr_Next.f k a0_0 a0_1 a0_2 a0_3 = some r) :
    Calls Tryd.prog 36 #[.agg #[.int .i64 a0_0, .int .i64 a0_1, .int .i64 a0_2, .int .i64 a0_3]] w fun e w' => ∃ v0_ : Value, e = .returned (v0_) ∧ Kd.R (Kd.int .i64) 3 w' w.heap.size (fun _ => True) v0_ r ∧ Below w.heap.size w w' := by
  have hu77 := Tryd.underlying77
  have HB := Aside0.mk (Below.refl w.heap.size w)
  have H : ((instr_Size.f k a0_1).bind fun t474 => (if t474 = 0 then (instr_Next.j0 k (wrap64 (a0_0 + a0_3)) true a0_0 a0_1 a0_2 a0_3) else (if a0_1 = 42 then (instr_Next.j0 k (wrap64 (a0_0 + a0_3)) true a0_0 a0_1 a0_2 a0_3) else (if a0_1 = 43 then (instr_Next.j0 k (wrap64 (a0_0 + a0_3)) true a0_0 a0_1 a0_2 a0_3) else (instr_Next.j0 k (wrap64 (a0_0 + a0_3)) (a0_1 == 44) a0_0 a0_1 a0_2 a0_3))))) = some r := h
  clear h
  have HC2 := Aside0.mk H
  clear H
  go_enter Tryd.func36, Tryd.ntmps36
  go_upto_region 2 with (first | ((with_reducible refine gate_dst (N := 1) rfl ?_); refine box_event ?hg (N := 1) ?hd (cs := #[.int .i64 a0_0, .int .i64 a0_1, .int .i64 a0_2, .int .i64 a0_3]) (t := 77) ?hr ?_; (case hd => rfl); (case hg => rfl); (case hr => first | (go_simp; done) | (go_simp; rfl)); intro gb473 hg w3 hbox hb; have n0_ := Aside0.mk (below_step B_ hb); have n1_ := Aside0.mk (hbox); have n2_ := Aside0.mk ((by rw [hg]; exact (below_size B_) : w.heap.size ≤ gb473)); have n3_ := Aside0.mk ((by rw [hg]; exact (below_size B_) : w.heap.size ≤ gb473)); clear HB; have HB := n0_; have BK473 := n1_; have GW473 := n2_; have GE473 := n3_; clear n0_ n1_ n2_ n3_; clear hb hbox hg; obtain ⟨hcz4_0, hcz4_1, hcz4_2, hcz4_3, hfz4_0, hfz4_1, hfz4_2, hfz4_3⟩ := c4_ BK473.out))
  (try simp only [Act.put, List.setIfInBounds_toArray, List.set_cons_zero, List.set_cons_succ])
  go_cut [9] (fun v9 wc => ∃ (kq : Nat) (x9_1 : Bool), v9 = .bool x9_1 ∧ Aside0 (instr_Next.j0 kq (wrap64 (a0_0 + a0_3)) x9_1 a0_0 a0_1 a0_2 a0_3 = some r) ∧ Aside0 (kq ≤ k) ∧ Aside0 (wc.heap[gb473]? = some (.cells #[.int .i64 a0_0, .int .i64 a0_1, .int .i64 a0_2, .int .i64 a0_3] 77 (0, 0))) ∧ Aside0 (Below w.heap.size w wc))
  case first =>
    have H := HC2.out
    clear HC2
    replace H := Option.bind_eq_some_iff.mp H
    obtain ⟨t474, A50, H⟩ := H
    replace H : (if t474 = 0 then (instr_Next.j0 k (wrap64 (a0_0 + a0_3)) true a0_0 a0_1 a0_2 a0_3) else (if a0_1 = 42 then (instr_Next.j0 k (wrap64 (a0_0 + a0_3)) true a0_0 a0_1 a0_2 a0_3) else (if a0_1 = 43 then (instr_Next.j0 k (wrap64 (a0_0 + a0_3)) true a0_0 a0_1 a0_2 a0_3) else (instr_Next.j0 k (wrap64 (a0_0 + a0_3)) (a0_1 == 44) a0_0 a0_1 a0_2 a0_3)))) = some r := H
    have A5 := Aside0.mk A50
    clear A50
    by_cases c6 : t474 = 0
    · rw [if_pos c6] at H
      have c6b0 : (t474 == 0) = true := beq_iff_eq.mpr c6
      have c6b1 : (t474 != 0) = false := bne_eq_false_iff_eq.mpr c6
      clear c6
      (first | rw [c6b0] | (simp only [i64_w, i32_w]; rw [c6b0]) | skip)
      have H' := Aside0.mk H
      clear H
      obtain ⟨hcz7_0, hcz7_1, hcz7_2, hcz7_3, hfz7_0, hfz7_1, hfz7_2, hfz7_3⟩ := c4_ BK473.out
      go_wp2_with (first | ((with_reducible refine gate_callee (f := 62) rfl ?_); refine goesL_ (some 12) rfl rfl Tryd.func62 (by kernel_rfl) rfl #[.int .i64 a0_1] rfl (by (try simp only [List.map_toArray, List.map_cons, List.map_nil]); first | done | rfl | (simp only [List.length_drop, List.length_take]; rfl)) ?_; (with_reducible refine (instr_Size.calls k a0_1 t474 _ A5.out).mono ?_); rintro e w' ⟨rfl, ⟨nd, rfl⟩⟩; refine ⟨_, rfl, ?_⟩))
      go_meet
      case rel => exact ⟨_, (true), R_, H', ⟨by first | omega | exact Nat.le_refl _⟩, ⟨M_⟩, ⟨B_⟩⟩
    · rw [if_neg c6] at H
      have c6b0 : (t474 == 0) = false := beq_eq_false_iff_ne.mpr c6
      have c6b1 : (t474 != 0) = true := bne_iff_ne.mpr c6
      (first | rw [c6b0] | (simp only [i64_w, i32_w]; rw [c6b0]) | skip)
      by_cases c8 : a0_1 = 42
      · rw [if_pos c8] at H
        have c8b0 : (a0_1 == 42) = true := beq_iff_eq.mpr c8
        have c8b1 : (a0_1 != 42) = false := bne_eq_false_iff_eq.mpr c8
        clear c8
        have H' := Aside0.mk H
        clear H
        obtain ⟨hcz9_0, hcz9_1, hcz9_2, hcz9_3, hfz9_0, hfz9_1, hfz9_2, hfz9_3⟩ := c4_ BK473.out
        go_wp2_with (first | ((with_reducible refine gate_callee (f := 62) rfl ?_); refine goesL_ (some 12) rfl rfl Tryd.func62 (by kernel_rfl) rfl #[.int .i64 a0_1] rfl (by (try simp only [List.map_toArray, List.map_cons, List.map_nil]); first | done | rfl | (simp only [List.length_drop, List.length_take]; rfl)) ?_; (with_reducible refine (instr_Size.calls k a0_1 t474 _ A5.out).mono ?_); rintro e w' ⟨rfl, ⟨nd, rfl⟩⟩; refine ⟨_, rfl, ?_⟩))
        go_meet
        case rel => exact ⟨_, (true), R_, H', ⟨by first | omega | exact Nat.le_refl _⟩, ⟨M_⟩, ⟨B_⟩⟩
      · rw [if_neg c8] at H
        have c8b0 : (a0_1 == 42) = false := beq_eq_false_iff_ne.mpr c8
        have c8b1 : (a0_1 != 42) = true := bne_iff_ne.mpr c8
        by_cases c10 : a0_1 = 43
        · rw [if_pos c10] at H
          have c10b0 : (a0_1 == 43) = true := beq_iff_eq.mpr c10
          have c10b1 : (a0_1 != 43) = false := bne_eq_false_iff_eq.mpr c10
          clear c10
          have H' := Aside0.mk H
          clear H
          obtain ⟨hcz11_0, hcz11_1, hcz11_2, hcz11_3, hfz11_0, hfz11_1, hfz11_2, hfz11_3⟩ := c4_ BK473.out
          go_wp2_with (first | ((with_reducible refine gate_callee (f := 62) rfl ?_); refine goesL_ (some 12) rfl rfl Tryd.func62 (by kernel_rfl) rfl #[.int .i64 a0_1] rfl (by (try simp only [List.map_toArray, List.map_cons, List.map_nil]); first | done | rfl | (simp only [List.length_drop, List.length_take]; rfl)) ?_; (with_reducible refine (instr_Size.calls k a0_1 t474 _ A5.out).mono ?_); rintro e w' ⟨rfl, ⟨nd, rfl⟩⟩; refine ⟨_, rfl, ?_⟩))
          go_meet
          case rel => exact ⟨_, (true), R_, H', ⟨by first | omega | exact Nat.le_refl _⟩, ⟨M_⟩, ⟨B_⟩⟩
        · rw [if_neg c10] at H
          have c10b0 : (a0_1 == 43) = false := beq_eq_false_iff_ne.mpr c10
          have c10b1 : (a0_1 != 43) = true := bne_iff_ne.mpr c10
          have H' := Aside0.mk H
          clear H
          obtain ⟨hcz12_0, hcz12_1, hcz12_2, hcz12_3, hfz12_0, hfz12_1, hfz12_2, hfz12_3⟩ := c4_ BK473.out
          go_wp2_with (first | ((with_reducible refine gate_callee (f := 62) rfl ?_); refine goesL_ (some 12) rfl rfl Tryd.func62 (by kernel_rfl) rfl #[.int .i64 a0_1] rfl (by (try simp only [List.map_toArray, List.map_cons, List.map_nil]); first | done | rfl | (simp only [List.length_drop, List.length_take]; rfl)) ?_; (with_reducible refine (instr_Size.calls k a0_1 t474 _ A5.out).mono ?_); rintro e w' ⟨rfl, ⟨nd, rfl⟩⟩; refine ⟨_, rfl, ?_⟩))
          go_meet
          case rel => exact ⟨_, ((a0_1 == 44)), R_, H', ⟨by first | omega | exact Nat.le_refl _⟩, ⟨M_⟩, ⟨B_⟩⟩
  case rest =>
    clear HC2
    try clear c1
    try clear p2
    try clear c3
    try clear c6
    try clear c6b0
    try clear c6b1
    try clear p6
    try clear c8
    try clear c8b0
    try clear c8b1
    try clear c10
    try clear c10b0
    try clear c10b1
    try clear hcz11_0 hcz11_1 hcz11_2 hcz11_3 hfz11_0 hfz11_1 hfz11_2 hfz11_3
    try clear hcz12_0 hcz12_1 hcz12_2 hcz12_3 hfz12_0 hfz12_1 hfz12_2 hfz12_3
    try clear hcz4_0 hcz4_1 hcz4_2 hcz4_3 hfz4_0 hfz4_1 hfz4_2 hfz4_3
    try clear hcz7_0 hcz7_1 hcz7_2 hcz7_3 hfz7_0 hfz7_1 hfz7_2 hfz7_3
    try clear hcz9_0 hcz9_1 hcz9_2 hcz9_3 hfz9_0 hfz9_1 hfz9_2 hfz9_3
    obtain ⟨kq, x9_1, rfl, HA, HJ1, BK473, HB⟩ := hcut
    cases kq with
    | zero => exact absurd HA.out (by simp [instr_Next.j0])
    | succ kj1 =>
      have H := HA.out
      clear HA
      simp only [instr_Next.j0] at H
      by_cases c13 : x9_1 = true
      · subst c13
        have H1 : (some ([] : List Int)) = some r := by rw [if_pos rfl] at H; exact H
        clear H
        have H := H1
        clear H1
        obtain rfl := Option.some.inj H
        go_wp2
        go_ret
        exact ⟨_, by first | rfl | (simp [errW_none, errW_some] <;> rfl) | (simp [*, errW_none, errW_some] <;> rfl), by first | exact Kd.R_nil _ _ _ _ _ | exact Kd.N_nil _ _ _ _ _ | exact Kd.V_nil _ _ _ _ _ | exact Kd.Q_nil _ _ _ _ _ | exact Kd.S_nil _ _ _ _ _, B_⟩
      · replace c13 := Bool.eq_false_iff.mpr c13
        subst c13
        have H1 : (if a0_1 = 19 then (some (([a0_2] : List Int))) else ((instr_jumps.f a0_1).bind fun t478 => (if t478 = true then (if a0_2 = (wrap64 (a0_0 + a0_3)) then (some (([(wrap64 (a0_0 + a0_3))] : List Int))) else (some (([(wrap64 (a0_0 + a0_3)), a0_2] : List Int)))) else (some (([(wrap64 (a0_0 + a0_3))] : List Int)))))) = some r := by rw [if_neg (show ¬ (false = true) by decide)] at H; exact H
        clear H
        have H := H1
        clear H1
        by_cases c14 : a0_1 = 19
        · rw [if_pos c14] at H
          have c14b0 : (a0_1 == 19) = true := beq_iff_eq.mpr c14
          have c14b1 : (a0_1 != 19) = false := bne_eq_false_iff_eq.mpr c14
          clear c14
          obtain ⟨y475, hy475⟩ : ∃ y_ : List Int, y_ = (([a0_2] : List Int)) := ⟨_, rfl⟩
          replace H : (some y475) = some r := by first | (rw [hy475]; with_reducible exact H) | (have H2_ := (Option.bind_some _ _).symm.trans H; rw [hy475]; with_reducible exact H2_) | (have H2_ := (Option.bind_some _ _).symm.trans H; with_reducible exact H2_) | with_reducible exact H | (rw [hy475]; exact H) | exact H
          have Ny475 := Aside0.mk hy475
          clear hy475
          obtain rfl := Option.some.inj H
          obtain ⟨hcz15_0, hcz15_1, hcz15_2, hcz15_3, hfz15_0, hfz15_1, hfz15_2, hfz15_3⟩ := c4_ BK473.out
          go_wp2_with (first | ((with_reducible refine gate_dst (N := 35) rfl ?_); refine Kd.R_lit (Kd.int .i64) _ 3 ?hg (N := 35) ?hd (xs := ([a0_2] : List Int)) (inner := [.int .i64 a0_2]) (ok := fun _ => True) (okp := fun _ => True) ?hr ?hp (fun _ hk => hk) trivial (Below.refl _ _) (Nat.le_refl _) (by simp) ?_; (case hd => rfl); (case hg => rfl); (case hr => first | (go_simp; done) | (go_simp; rfl)); (case hp => exact (Reps.one (show Kd.M (Kd.int .i64) _ _ _ a0_2 [.int .i64 a0_2] from rfl) (Reps.none _ _))); intro v476 w16 ho17 hb hg_ hnew_; clear hg_ hnew_; (first | rw [← Ny475.out] at ho17 | (simp only [Int.reduceToNat] at ho17; rw [← Ny475.out] at ho17)); have n0_ := Aside0.mk (Kd.R_lower ho17 (below_size B_)); have n1_ := Aside0.mk (blk_below (g := gb473) (o := .cells #[.int .i64 a0_0, .int .i64 a0_1, .int .i64 a0_2, .int .i64 a0_3] 77 (0, 0)) M_ hb); have n2_ := Aside0.mk (below_step B_ hb); clear BK473; clear HB; have HO477 := n0_; have BK473 := n1_; have HB := n2_; clear n0_ n1_ n2_; clear hb ho17))
          go_ret
          exact ⟨_, by first | rfl | (simp [errW_none, errW_some] <;> rfl) | (simp [*, errW_none, errW_some] <;> rfl), by (with_reducible repeat (first | apply Kd.R_alloc | apply Kd.R_drewN | apply Kd.R_drew)); exact HO477.out, B_⟩
        · rw [if_neg c14] at H
          have c14b0 : (a0_1 == 19) = false := beq_eq_false_iff_ne.mpr c14
          have c14b1 : (a0_1 != 19) = true := bne_iff_ne.mpr c14
          replace H := Option.bind_eq_some_iff.mp H
          obtain ⟨t478, A180, H⟩ := H
          replace H : (if t478 = true then (if a0_2 = (wrap64 (a0_0 + a0_3)) then (some (([(wrap64 (a0_0 + a0_3))] : List Int))) else (some (([(wrap64 (a0_0 + a0_3)), a0_2] : List Int)))) else (some (([(wrap64 (a0_0 + a0_3))] : List Int)))) = some r := H
          have A18 := Aside0.mk A180
          clear A180
          by_cases c19 : t478 = true
          · subst c19
            have H1 : (if a0_2 = (wrap64 (a0_0 + a0_3)) then (some (([(wrap64 (a0_0 + a0_3))] : List Int))) else (some (([(wrap64 (a0_0 + a0_3)), a0_2] : List Int)))) = some r := by rw [if_pos rfl] at H; exact H
            clear H
            have H := H1
            clear H1
            by_cases c20 : a0_2 = (wrap64 (a0_0 + a0_3))
            · rw [if_pos c20] at H
              have c20b0 : (a0_2 == (wrap64 (a0_0 + a0_3))) = true := beq_iff_eq.mpr c20
              have c20b1 : (a0_2 != (wrap64 (a0_0 + a0_3))) = false := bne_eq_false_iff_eq.mpr c20
              clear c20
              obtain ⟨y479, hy479⟩ : ∃ y_ : List Int, y_ = (([(wrap64 (a0_0 + a0_3))] : List Int)) := ⟨_, rfl⟩
              replace H : (some y479) = some r := by first | (rw [hy479]; with_reducible exact H) | (have H2_ := (Option.bind_some _ _).symm.trans H; rw [hy479]; with_reducible exact H2_) | (have H2_ := (Option.bind_some _ _).symm.trans H; with_reducible exact H2_) | with_reducible exact H | (rw [hy479]; exact H) | exact H
              have Ny479 := Aside0.mk hy479
              clear hy479
              obtain rfl := Option.some.inj H
              obtain ⟨hcz21_0, hcz21_1, hcz21_2, hcz21_3, hfz21_0, hfz21_1, hfz21_2, hfz21_3⟩ := c4_ BK473.out
              go_wp2_with (first | ((with_reducible refine gate_callee (f := 64) rfl ?_); refine goesL_ (some 39) rfl rfl Tryd.func64 (by kernel_rfl) rfl #[.int .i64 a0_1] rfl (by (try simp only [List.map_toArray, List.map_cons, List.map_nil]); first | done | rfl | (simp only [List.length_drop, List.length_take]; rfl)) ?_; (with_reducible refine (instr_jumps.calls a0_1 true _ A18.out).mono ?_); rintro e w' ⟨rfl, ⟨nd, rfl⟩⟩; refine ⟨_, rfl, ?_⟩) | ((with_reducible refine gate_dst (N := 51) rfl ?_); refine Kd.R_lit (Kd.int .i64) _ 3 ?hg (N := 51) ?hd (xs := ([(wrap64 (a0_0 + a0_3))] : List Int)) (inner := [.int .i64 (wrap64 (a0_0 + a0_3))]) (ok := fun _ => True) (okp := fun _ => True) ?hr ?hp (fun _ hk => hk) trivial (Below.refl _ _) (Nat.le_refl _) (by simp) ?_; (case hd => rfl); (case hg => rfl); (case hr => first | (go_simp; done) | (go_simp; rfl)); (case hp => exact (Reps.one (show Kd.M (Kd.int .i64) _ _ _ (wrap64 (a0_0 + a0_3)) [.int .i64 (wrap64 (a0_0 + a0_3))] from rfl) (Reps.none _ _))); intro v480 w22 ho23 hb hg_ hnew_; clear hg_ hnew_; (first | rw [← Ny479.out] at ho23 | (simp only [Int.reduceToNat] at ho23; rw [← Ny479.out] at ho23)); have n0_ := Aside0.mk (Kd.R_lower ho23 (below_size B_)); have n1_ := Aside0.mk (blk_below (g := gb473) (o := .cells #[.int .i64 a0_0, .int .i64 a0_1, .int .i64 a0_2, .int .i64 a0_3] 77 (0, 0)) M_ hb); have n2_ := Aside0.mk (below_step B_ hb); clear BK473; clear HB; have HO481 := n0_; have BK473 := n1_; have HB := n2_; clear n0_ n1_ n2_; clear hb ho23))
              go_ret
              exact ⟨_, by first | rfl | (simp [errW_none, errW_some] <;> rfl) | (simp [*, errW_none, errW_some] <;> rfl), by (with_reducible repeat (first | apply Kd.R_alloc | apply Kd.R_drewN | apply Kd.R_drew)); exact HO481.out, B_⟩
            · rw [if_neg c20] at H
              have c20b0 : (a0_2 == (wrap64 (a0_0 + a0_3))) = false := beq_eq_false_iff_ne.mpr c20
              have c20b1 : (a0_2 != (wrap64 (a0_0 + a0_3))) = true := bne_iff_ne.mpr c20
              obtain ⟨y482, hy482⟩ : ∃ y_ : List Int, y_ = (([(wrap64 (a0_0 + a0_3)), a0_2] : List Int)) := ⟨_, rfl⟩
              replace H : (some y482) = some r := by first | (rw [hy482]; with_reducible exact H) | (have H2_ := (Option.bind_some _ _).symm.trans H; rw [hy482]; with_reducible exact H2_) | (have H2_ := (Option.bind_some _ _).symm.trans H; with_reducible exact H2_) | with_reducible exact H | (rw [hy482]; exact H) | exact H
              have Ny482 := Aside0.mk hy482
              clear hy482
              obtain rfl := Option.some.inj H
              obtain ⟨hcz24_0, hcz24_1, hcz24_2, hcz24_3, hfz24_0, hfz24_1, hfz24_2, hfz24_3⟩ := c4_ BK473.out
              go_wp2_with (first | ((with_reducible refine gate_callee (f := 64) rfl ?_); refine goesL_ (some 39) rfl rfl Tryd.func64 (by kernel_rfl) rfl #[.int .i64 a0_1] rfl (by (try simp only [List.map_toArray, List.map_cons, List.map_nil]); first | done | rfl | (simp only [List.length_drop, List.length_take]; rfl)) ?_; (with_reducible refine (instr_jumps.calls a0_1 true _ A18.out).mono ?_); rintro e w' ⟨rfl, ⟨nd, rfl⟩⟩; refine ⟨_, rfl, ?_⟩) | ((with_reducible refine gate_dst (N := 49) rfl ?_); refine Kd.R_lit (Kd.int .i64) _ 3 ?hg (N := 49) ?hd (xs := ([(wrap64 (a0_0 + a0_3)), a0_2] : List Int)) (inner := [.int .i64 (wrap64 (a0_0 + a0_3)), .int .i64 a0_2]) (ok := fun _ => True) (okp := fun _ => True) ?hr ?hp (fun _ hk => hk) trivial (Below.refl _ _) (Nat.le_refl _) (by simp) ?_; (case hd => rfl); (case hg => rfl); (case hr => first | (go_simp; done) | (go_simp; rfl)); (case hp => exact (Reps.one (show Kd.M (Kd.int .i64) _ _ _ (wrap64 (a0_0 + a0_3)) [.int .i64 (wrap64 (a0_0 + a0_3))] from rfl) (Reps.one (show Kd.M (Kd.int .i64) _ _ _ a0_2 [.int .i64 a0_2] from rfl) (Reps.none _ _)))); intro v483 w25 ho26 hb hg_ hnew_; clear hg_ hnew_; (first | rw [← Ny482.out] at ho26 | (simp only [Int.reduceToNat] at ho26; rw [← Ny482.out] at ho26)); have n0_ := Aside0.mk (Kd.R_lower ho26 (below_size B_)); have n1_ := Aside0.mk (blk_below (g := gb473) (o := .cells #[.int .i64 a0_0, .int .i64 a0_1, .int .i64 a0_2, .int .i64 a0_3] 77 (0, 0)) M_ hb); have n2_ := Aside0.mk (below_step B_ hb); clear BK473; clear HB; have HO484 := n0_; have BK473 := n1_; have HB := n2_; clear n0_ n1_ n2_; clear hb ho26))
              go_ret
              exact ⟨_, by first | rfl | (simp [errW_none, errW_some] <;> rfl) | (simp [*, errW_none, errW_some] <;> rfl), by (with_reducible repeat (first | apply Kd.R_alloc | apply Kd.R_drewN | apply Kd.R_drew)); exact HO484.out, B_⟩
          · replace c19 := Bool.eq_false_iff.mpr c19
            subst c19
            have H1 : (some (([(wrap64 (a0_0 + a0_3))] : List Int))) = some r := by rw [if_neg (show ¬ (false = true) by decide)] at H; exact H
            clear H
            have H := H1
            clear H1
            obtain ⟨y485, hy485⟩ : ∃ y_ : List Int, y_ = (([(wrap64 (a0_0 + a0_3))] : List Int)) := ⟨_, rfl⟩
            replace H : (some y485) = some r := by first | (rw [hy485]; with_reducible exact H) | (have H2_ := (Option.bind_some _ _).symm.trans H; rw [hy485]; with_reducible exact H2_) | (have H2_ := (Option.bind_some _ _).symm.trans H; with_reducible exact H2_) | with_reducible exact H | (rw [hy485]; exact H) | exact H
            have Ny485 := Aside0.mk hy485
            clear hy485
            obtain rfl := Option.some.inj H
            obtain ⟨hcz27_0, hcz27_1, hcz27_2, hcz27_3, hfz27_0, hfz27_1, hfz27_2, hfz27_3⟩ := c4_ BK473.out
            go_wp2_with (first | ((with_reducible refine gate_callee (f := 64) rfl ?_); refine goesL_ (some 39) rfl rfl Tryd.func64 (by kernel_rfl) rfl #[.int .i64 a0_1] rfl (by (try simp only [List.map_toArray, List.map_cons, List.map_nil]); first | done | rfl | (simp only [List.length_drop, List.length_take]; rfl)) ?_; (with_reducible refine (instr_jumps.calls a0_1 false _ A18.out).mono ?_); rintro e w' ⟨rfl, ⟨nd, rfl⟩⟩; refine ⟨_, rfl, ?_⟩) | ((with_reducible refine gate_dst (N := 51) rfl ?_); refine Kd.R_lit (Kd.int .i64) _ 3 ?hg (N := 51) ?hd (xs := ([(wrap64 (a0_0 + a0_3))] : List Int)) (inner := [.int .i64 (wrap64 (a0_0 + a0_3))]) (ok := fun _ => True) (okp := fun _ => True) ?hr ?hp (fun _ hk => hk) trivial (Below.refl _ _) (Nat.le_refl _) (by simp) ?_; (case hd => rfl); (case hg => rfl); (case hr => first | (go_simp; done) | (go_simp; rfl)); (case hp => exact (Reps.one (show Kd.M (Kd.int .i64) _ _ _ (wrap64 (a0_0 + a0_3)) [.int .i64 (wrap64 (a0_0 + a0_3))] from rfl) (Reps.none _ _))); intro v486 w28 ho29 hb hg_ hnew_; clear hg_ hnew_; (first | rw [← Ny485.out] at ho29 | (simp only [Int.reduceToNat] at ho29; rw [← Ny485.out] at ho29)); have n0_ := Aside0.mk (Kd.R_lower ho29 (below_size B_)); have n1_ := Aside0.mk (blk_below (g := gb473) (o := .cells #[.int .i64 a0_0, .int .i64 a0_1, .int .i64 a0_2, .int .i64 a0_3] 77 (0, 0)) M_ hb); have n2_ := Aside0.mk (below_step B_ hb); clear BK473; clear HB; have HO487 := n0_; have BK473 := n1_; have HB := n2_; clear n0_ n1_ n2_; clear hb ho29))
            go_ret
            exact ⟨_, by first | rfl | (simp [errW_none, errW_some] <;> rfl) | (simp [*, errW_none, errW_some] <;> rfl), by (with_reducible repeat (first | apply Kd.R_alloc | apply Kd.R_drewN | apply Kd.R_drew)); exact HO487.out, B_⟩

end Go.Proofs.YtldejfkplnejjaaDoor.P
