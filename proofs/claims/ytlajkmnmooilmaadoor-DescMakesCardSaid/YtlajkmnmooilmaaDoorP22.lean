-- Written by my program xprint.py (a patched run of the kit's print). Lean checks it.
import Derived.Test.YtlajkmnmooilmaaDoorP0
import Derived.Test.YtlajkmnmooilmaaDoorP14
import Derived.Test.YtlajkmnmooilmaaDoorExt
namespace Go.Proofs.YtlajkmnmooilmaaDoor.P
open Go.RowKit Go.Proofs.YtlajkmnmooilmaaDoorW.PrintWords Go.Proofs.YtlajkmnmooilmaaDoorW.PrintLast Go.Proofs.YtlajkmnmooilmaaDoorW.PrintMore
attribute [local go_sem] max2_int min2_int max_two min_two max_three min_three max_four min_four   -- for this text's walks alone
set_option linter.unusedVariables false
set_option linter.unusedSimpArgs false

/-! ### desc_Make: function 42 -/
def desc_Make.j0 : Nat → List (S26) → Bool → Int → ByteArray → Option ((List (S26)) × Bool × Int × ByteArray × Int)
  | 0, _, _, _, _ => none
  | k + 1, x1, x367001, x367002, x367003 => (api_Type_51.f x1).bind fun t373 => ((desc_SigText.f k t373 x367001 x367002 x367003).bind fun bt376 => (if bt376.2 = 0 then (some (t373, x367001, x367002, x367003, 0)) else (some (([] : List (S26)), false, 0, (⟨#[]⟩ : ByteArray), bt376.2))))
def desc_Make.f (k : Nat) (a0 : Bool) (l1 : List (S26)) : Option ((List (S26)) × Bool × Int × ByteArray × Int) := if a0 = true then (desc_Make.j0 k l1 a0 0 (⟨#[]⟩ : ByteArray)) else (if (l1.length : Int) = 0 then (some (([] : List (S26)), false, 0, (⟨#[]⟩ : ByteArray), 2)) else (if 0 ≤ (wrap64 ((l1.length : Int) - 1)) then (if (wrap64 ((l1.length : Int) - 1)) < (l1.length : Int) then (if (wrap64 ((l1.length : Int) - 1)) ≤ (l1.length : Int) then (desc_Make.j0 k (l1.take ((wrap64 ((l1.length : Int) - 1)) : Int).toNat) a0 ((rd_T26 l1 (wrap64 ((l1.length : Int) - 1))).f0) ((rd_T26 l1 (wrap64 ((l1.length : Int) - 1))).f1)) else (none)) else (none)) else (none)))
theorem desc_Make.mono_l : ∀ k, (∀ y0 y1 y2 y3, LeO (desc_Make.j0 k y0 y1 y2 y3) (desc_Make.j0 (k + 1) y0 y1 y2 y3))
  | 0 => fun _ _ _ _ r h => by simp [desc_Make.j0] at h
  | k + 1 => by
    have ih0 := desc_Make.mono_l k
    · intro y0 y1 y2 y3
      unfold desc_Make.j0
      repeat' first
      | (with_reducible exact ih0 _ _ _ _)
      | (with_reducible exact desc_SigText.mono _ _ _ _ _)
      | (with_reducible exact LeO.refl _)
      | (with_reducible exact LeO.none _)
      | (with_reducible refine LeO.ite ?_ ?_)
      | (with_reducible refine LeO.bind ?_ (fun _ => ?_))
      | exact ih0 _ _ _ _
      | exact desc_SigText.mono _ _ _ _ _
      | exact LeO.none _
      | refine LeO.ite ?_ ?_
      | refine LeO.bind ?_ (fun _ => ?_)
theorem desc_Make.mono : ∀ a0 a1 k, LeO (desc_Make.f k a0 a1) (desc_Make.f (k + 1) a0 a1) := by
  intro a0 a1 k
  have ih0 := desc_Make.mono_l k
  unfold desc_Make.f
  repeat' first
      | (with_reducible exact ih0 _ _ _ _)
      | (with_reducible exact desc_SigText.mono _ _ _ _ _)
      | (with_reducible exact LeO.refl _)
      | (with_reducible exact LeO.none _)
      | (with_reducible refine LeO.ite ?_ ?_)
      | (with_reducible refine LeO.bind ?_ (fun _ => ?_))
      | exact ih0 _ _ _ _
      | exact desc_SigText.mono _ _ _ _ _
      | exact LeO.none _
      | refine LeO.ite ?_ ?_
      | refine LeO.bind ?_ (fun _ => ?_)
set_option maxHeartbeats 8000000 in
set_option maxRecDepth 100000 in
theorem desc_Make.calls (k : Nat) (a0 : Bool) (P1_ : Nat → Prop) (A1 : Option Addr) (c1 : Nat) (l1 : List (S26)) (r1 : List (S26)) (r2 : Bool) (r3 : Int) (r4 : ByteArray) (r5 : Int) (w : World) (hs1 : Kd.V k26 26 w w.heap.size (fun k_ => P1_ k_) (.slice A1 l1.length c1) l1) (h : desc_Make.f k a0 l1 = some (r1, r2, r3, r4, r5)) :
    Calls Tryd.prog 42 #[.bool a0, .slice A1 l1.length c1] w fun e w' => ∃ v0_ : Value, e = .returned (.tuple #[.agg #[v0_, .bool r2, .int .i64 r3, .string r4], .int .i64 r5]) ∧ Kd.R k26 26 w' w.heap.size (fun k_ => (w.heap.size ≤ k_)) v0_ r1 ∧ Below w.heap.size w w' := by
  have hu32 := Tryd.underlying32
  have hu26 := Tryd.underlying26
  have HO1 := Aside0.mk (show Kd.V k26 26 w w.heap.size (fun k_ => (P1_ k_ ∨ w.heap.size ≤ k_)) (.slice A1 l1.length c1) l1 from Kd.V_mono hs1 (fun k_ hk => .inl hk))
  have HB := Aside0.mk (Below.refl w.heap.size w)
  have H : (if a0 = true then (desc_Make.j0 k l1 a0 0 (⟨#[]⟩ : ByteArray)) else (if (l1.length : Int) = 0 then (some (([] : List (S26)), false, 0, (⟨#[]⟩ : ByteArray), 2)) else (if 0 ≤ (wrap64 ((l1.length : Int) - 1)) then (if (wrap64 ((l1.length : Int) - 1)) < (l1.length : Int) then (if (wrap64 ((l1.length : Int) - 1)) ≤ (l1.length : Int) then (desc_Make.j0 k (l1.take ((wrap64 ((l1.length : Int) - 1)) : Int).toNat) a0 ((rd_T26 l1 (wrap64 ((l1.length : Int) - 1))).f0) ((rd_T26 l1 (wrap64 ((l1.length : Int) - 1))).f1)) else (none)) else (none)) else (none)))) = some (r1, r2, r3, r4, r5) := h
  clear h
  have HC3 := Aside0.mk H
  clear H
  go_enter Tryd.func42, Tryd.ntmps42
  go_upto_if 12 with (first | ((with_reducible refine gate_dst (N := 4) rfl ?_); refine box_event ?hg (N := 4) ?hd (cs := #[.slice none 0 0, .bool false, .int .i64 0, .string (⟨#[]⟩ : ByteArray)]) (t := 32) ?hr ?_; (case hd => rfl); (case hg => rfl); (case hr => first | (go_simp; done) | (go_simp; rfl)); intro gb365 hg w4 hbox hb; have n0_ := Aside0.mk (Kd.V_below (Kd.V_elderB (by (with_reducible repeat (first | apply Kd.V_alloc | apply Kd.V_drewN | apply Kd.V_drew)); exact HO1.out) gb365 (Nat.le_of_eq hg.symm)) hb); have n1_ := Aside0.mk (below_step (by repeat (first | (with_reducible first | exact HB.out | apply below_alloc | apply pw_below_drewN | apply below_drew1) | exact HB.out)) hb); have n2_ := Aside0.mk (hbox); have n3_ := Aside0.mk ((by rw [hg]; exact (below_size (by repeat (first | (with_reducible first | exact HB.out | apply below_alloc | apply pw_below_drewN | apply below_drew1) | exact HB.out))) : w.heap.size ≤ gb365)); have n4_ := Aside0.mk ((by rw [hg]; exact (below_size (by repeat (first | (with_reducible first | exact HB.out | apply below_alloc | apply pw_below_drewN | apply below_drew1) | exact HB.out))) : w.heap.size ≤ gb365)); clear HO1; clear HB; have HO1 := n0_; have HB := n1_; have BK365 := n2_; have GW365 := n3_; have GE365 := n4_; clear n0_ n1_ n2_ n3_ n4_; clear hb hbox hg) | ((with_reducible refine gate_dst (N := 6) rfl ?_); refine box_event ?hg (N := 6) ?hd (cs := #[.slice none 0 0, .bool false, .int .i64 0, .string (⟨#[]⟩ : ByteArray)]) (t := 32) ?hr ?_; (case hd => rfl); (case hg => rfl); (case hr => first | (go_simp; done) | (go_simp; rfl)); intro gb366 hg w5 hbox hb; have n0_ := Aside0.mk (Kd.V_below (Kd.V_elderB (by (with_reducible repeat (first | apply Kd.V_alloc | apply Kd.V_drewN | apply Kd.V_drew)); exact HO1.out) gb366 (Nat.le_of_eq hg.symm)) hb); have n1_ := Aside0.mk (blk_below (g := gb365) (o := .cells #[.slice none 0 0, .bool false, .int .i64 0, .string (⟨#[]⟩ : ByteArray)] 32 (0, 0)) (by (with_reducible repeat (first | refine blk_drewN ?_ _ | refine blk_drew ?_ | refine blk_alloc ?_ _)); exact BK365.out) hb); have n2_ := Aside0.mk (below_step (by repeat (first | (with_reducible first | exact HB.out | apply below_alloc | apply pw_below_drewN | apply below_drew1 | refine below_set ?_ GE365.out) | exact HB.out)) hb); have n3_ := Aside0.mk (hbox); have n4_ := Aside0.mk ((by rw [hg]; exact (below_size (by repeat (first | (with_reducible first | exact HB.out | apply below_alloc | apply pw_below_drewN | apply below_drew1 | refine below_set ?_ GE365.out) | exact HB.out))) : w.heap.size ≤ gb366)); have n5_ := Aside0.mk ((by rw [hg]; exact (below_size (by repeat (first | (with_reducible first | exact HB.out | apply below_alloc | apply pw_below_drewN | apply below_drew1 | refine below_set ?_ GE365.out) | exact HB.out))) : w.heap.size ≤ gb366)); have n6_ := Aside0.mk ((by rw [hg]; exact Nat.ne_of_lt (blk_lt (g := gb365) (o := .cells #[.slice none 0 0, .bool false, .int .i64 0, .string (⟨#[]⟩ : ByteArray)] 32 (0, 0)) (by (with_reducible repeat (first | refine blk_drewN ?_ _ | refine blk_drew ?_ | refine blk_alloc ?_ _)); exact BK365.out)) : gb365 ≠ gb366)); have n7_ := Aside0.mk ((by rw [hg]; exact Nat.ne_of_gt (blk_lt (g := gb365) (o := .cells #[.slice none 0 0, .bool false, .int .i64 0, .string (⟨#[]⟩ : ByteArray)] 32 (0, 0)) (by (with_reducible repeat (first | refine blk_drewN ?_ _ | refine blk_drew ?_ | refine blk_alloc ?_ _)); exact BK365.out)) : gb366 ≠ gb365)); clear HO1; clear BK365; clear HB; have HO1 := n0_; have BK365 := n1_; have HB := n2_; have BK366 := n3_; have GW366 := n4_; have GE366 := n5_; have NB365_366 := n6_; have NB366_365 := n7_; clear n0_ n1_ n2_ n3_ n4_ n5_ n6_ n7_; clear hb hbox hg; have hnb6 := NB366_365.out; have hnc6 := NB365_366.out; have hcz7_0 : w5.cell? ⟨gb366, 0, none⟩ = some (.slice none 0 0) := (blk_cell BK366.out 0).trans rfl; have hcz7_1 : w5.cell? ⟨gb366, 1, none⟩ = some (.bool false) := (blk_cell BK366.out 1).trans rfl; have hcz7_2 : w5.cell? ⟨gb366, 2, none⟩ = some (.int .i64 0) := (blk_cell BK366.out 2).trans rfl; have hcz7_3 : w5.cell? ⟨gb366, 3, none⟩ = some (.string (⟨#[]⟩ : ByteArray)) := (blk_cell BK366.out 3).trans rfl; have hfz7_0 := blk_frozen BK366.out 0; have hfz7_1 := blk_frozen BK366.out 1; have hfz7_2 := blk_frozen BK366.out 2; have hfz7_3 := blk_frozen BK366.out 3))
  (try simp only [Act.put, List.setIfInBounds_toArray, List.set_cons_zero, List.set_cons_succ])
  go_cut [1] (fun v1 wc => ∃ (kq : Nat) (x1_2 : List (S26)) (x366001_2 : Bool) (x366002_2 : Int) (x366003_2 : ByteArray) (x367002_2 : Int) (x367003_2 : ByteArray), Aside0 (desc_Make.j0 kq x1_2 a0 x367002_2 x367003_2 = some (r1, r2, r3, r4, r5)) ∧ Aside0 (kq ≤ k) ∧ Aside0 (Kd.V k26 26 wc w.heap.size (fun k_ => (P1_ k_ ∨ w.heap.size ≤ k_) ∧ k_ ≠ gb365 ∧ k_ ≠ gb366) v1 x1_2) ∧ Aside0 (wc.heap[gb365]? = some (.cells #[(.slice none 0 0), .bool x366001_2, .int .i64 x366002_2, .string x366003_2] 32 (0, 0))) ∧ Aside0 (wc.heap[gb366]? = some (.cells #[(.slice none 0 0), .bool a0, .int .i64 x367002_2, .string x367003_2] 32 (0, 0))) ∧ Aside0 (Below w.heap.size w wc))
  case first =>
    have H := HC3.out
    clear HC3
    by_cases c8 : a0 = true
    · subst c8
      have H1 : (desc_Make.j0 k l1 true 0 (⟨#[]⟩ : ByteArray)) = some (r1, r2, r3, r4, r5) := by rw [if_pos rfl] at H; exact H
      clear H
      have H := H1
      clear H1
      have H' := Aside0.mk H
      clear H
      go_wp2
      go_meet
      case rel => exact ⟨_, (l1), (false), (0), ((⟨#[]⟩ : ByteArray)), (0), ((⟨#[]⟩ : ByteArray)), H', ⟨by first | omega | exact Nat.le_refl _⟩, ⟨by (with_reducible repeat (first | apply Kd.V_alloc | apply Kd.V_drewN | apply Kd.V_drew)); exact Kd.V_mono (Kd.V_far (p := ⟨gb366, 3, none⟩) (Kd.V_far (p := ⟨gb366, 2, none⟩) (Kd.V_far (p := ⟨gb366, 1, none⟩) (Kd.V_far (p := ⟨gb366, 0, none⟩) (Kd.V_mono HO1.out (fun k_ hk => (⟨hk, hk.2⟩ : _ ∧ k_ ≠ gb366))) (fun _ hk => hk.2) (.slice none 0 0)) (fun _ hk => hk.2) (.bool true)) (fun _ hk => hk.2) (.int .i64 0)) (fun _ hk => hk.2) (.string (⟨#[]⟩ : ByteArray))) (fun _ hk => ⟨hk.1.1.1, ⟨hk.1.1.2, hk.1.2⟩⟩)⟩, ⟨by (with_reducible repeat (first | refine blk_drewN ?_ _ | refine blk_drew ?_ | refine blk_alloc ?_ _)); refine blk_far ?_ NB365_366.out _; (with_reducible repeat (first | refine blk_drewN ?_ _ | refine blk_drew ?_ | refine blk_alloc ?_ _)); refine blk_far ?_ NB365_366.out _; (with_reducible repeat (first | refine blk_drewN ?_ _ | refine blk_drew ?_ | refine blk_alloc ?_ _)); refine blk_far ?_ NB365_366.out _; (with_reducible repeat (first | refine blk_drewN ?_ _ | refine blk_drew ?_ | refine blk_alloc ?_ _)); refine blk_far ?_ NB365_366.out _; (with_reducible repeat (first | refine blk_drewN ?_ _ | refine blk_drew ?_ | refine blk_alloc ?_ _)); exact BK365.out⟩, ⟨by (with_reducible repeat (first | refine blk_drewN ?_ _ | refine blk_drew ?_ | refine blk_alloc ?_ _)); refine blk_put (cs := #[.slice none 0 0, .bool true, .int .i64 0, .string (⟨#[]⟩ : ByteArray)]) ?_ 3 _ rfl; (with_reducible repeat (first | refine blk_drewN ?_ _ | refine blk_drew ?_ | refine blk_alloc ?_ _)); refine blk_put (cs := #[.slice none 0 0, .bool true, .int .i64 0, .string (⟨#[]⟩ : ByteArray)]) ?_ 2 _ rfl; (with_reducible repeat (first | refine blk_drewN ?_ _ | refine blk_drew ?_ | refine blk_alloc ?_ _)); refine blk_put (cs := #[.slice none 0 0, .bool false, .int .i64 0, .string (⟨#[]⟩ : ByteArray)]) ?_ 1 _ rfl; (with_reducible repeat (first | refine blk_drewN ?_ _ | refine blk_drew ?_ | refine blk_alloc ?_ _)); refine blk_put (cs := #[.slice none 0 0, .bool false, .int .i64 0, .string (⟨#[]⟩ : ByteArray)]) ?_ 0 _ rfl; (with_reducible repeat (first | refine blk_drewN ?_ _ | refine blk_drew ?_ | refine blk_alloc ?_ _)); exact BK366.out⟩, ⟨by repeat (first | (with_reducible first | exact HB.out | apply below_alloc | apply pw_below_drewN | apply below_drew1 | refine below_set ?_ GE365.out | refine below_set ?_ GE366.out) | exact HB.out)⟩⟩
    · replace c8 := Bool.eq_false_iff.mpr c8
      subst c8
      have H1 : (if (l1.length : Int) = 0 then (some (([] : List (S26)), false, 0, (⟨#[]⟩ : ByteArray), 2)) else (if 0 ≤ (wrap64 ((l1.length : Int) - 1)) then (if (wrap64 ((l1.length : Int) - 1)) < (l1.length : Int) then (if (wrap64 ((l1.length : Int) - 1)) ≤ (l1.length : Int) then (desc_Make.j0 k (l1.take ((wrap64 ((l1.length : Int) - 1)) : Int).toNat) false ((rd_T26 l1 (wrap64 ((l1.length : Int) - 1))).f0) ((rd_T26 l1 (wrap64 ((l1.length : Int) - 1))).f1)) else (none)) else (none)) else (none))) = some (r1, r2, r3, r4, r5) := by rw [if_neg (show ¬ (false = true) by decide)] at H; exact H
      clear H
      have H := H1
      clear H1
      by_cases c9 : (l1.length : Int) = 0
      · rw [if_pos c9] at H
        have c9b0 : ((l1.length : Int) == 0) = true := beq_iff_eq.mpr c9
        have c9b1 : ((l1.length : Int) != 0) = false := bne_eq_false_iff_eq.mpr c9
        clear c9
        (first | rw [c9b0] | (simp only [i64_w, i32_w]; rw [c9b0]) | skip)
        simp only [Option.some.injEq, Prod.mk.injEq] at H
        obtain ⟨rfl, rfl, rfl, rfl, rfl⟩ := H
        have hnb10 := NB365_366.out
        have hnc10 := NB366_365.out
        have hcz11_0 : w5.cell? ⟨gb365, 0, none⟩ = some (.slice none 0 0) := (blk_cell BK365.out 0).trans rfl
        have hcz11_1 : w5.cell? ⟨gb365, 1, none⟩ = some (.bool false) := (blk_cell BK365.out 1).trans rfl
        have hcz11_2 : w5.cell? ⟨gb365, 2, none⟩ = some (.int .i64 0) := (blk_cell BK365.out 2).trans rfl
        have hcz11_3 : w5.cell? ⟨gb365, 3, none⟩ = some (.string (⟨#[]⟩ : ByteArray)) := (blk_cell BK365.out 3).trans rfl
        have hfz11_0 := blk_frozen BK365.out 0
        have hfz11_1 := blk_frozen BK365.out 1
        have hfz11_2 := blk_frozen BK365.out 2
        have hfz11_3 := blk_frozen BK365.out 3
        go_wp2
        refine bodyPost_ret (results_ct rfl _ _ gb365 32 #[.slice none 0 0, .bool false, .int .i64 0, .string (⟨#[]⟩ : ByteArray)] (0, 0) _ rfl (by (with_reducible repeat (first | refine blk_drewN ?_ _ | refine blk_drew ?_ | refine blk_alloc ?_ _)); refine blk_put (cs := #[.slice none 0 0, .bool false, .int .i64 0, .string (⟨#[]⟩ : ByteArray)]) ?_ 3 _ rfl; (with_reducible repeat (first | refine blk_drewN ?_ _ | refine blk_drew ?_ | refine blk_alloc ?_ _)); refine blk_put (cs := #[.slice none 0 0, .bool false, .int .i64 0, .string (⟨#[]⟩ : ByteArray)]) ?_ 2 _ rfl; (with_reducible repeat (first | refine blk_drewN ?_ _ | refine blk_drew ?_ | refine blk_alloc ?_ _)); refine blk_put (cs := #[.slice none 0 0, .bool false, .int .i64 0, .string (⟨#[]⟩ : ByteArray)]) ?_ 1 _ rfl; (with_reducible repeat (first | refine blk_drewN ?_ _ | refine blk_drew ?_ | refine blk_alloc ?_ _)); refine blk_put (cs := #[.slice none 0 0, .bool false, .int .i64 0, .string (⟨#[]⟩ : ByteArray)]) ?_ 0 _ rfl; (with_reducible repeat (first | refine blk_drewN ?_ _ | refine blk_drew ?_ | refine blk_alloc ?_ _)); refine blk_far ?_ NB365_366.out _; (with_reducible repeat (first | refine blk_drewN ?_ _ | refine blk_drew ?_ | refine blk_alloc ?_ _)); refine blk_far ?_ NB365_366.out _; (with_reducible repeat (first | refine blk_drewN ?_ _ | refine blk_drew ?_ | refine blk_alloc ?_ _)); refine blk_far ?_ NB365_366.out _; (with_reducible repeat (first | refine blk_drewN ?_ _ | refine blk_drew ?_ | refine blk_alloc ?_ _)); refine blk_far ?_ NB365_366.out _; (with_reducible repeat (first | refine blk_drewN ?_ _ | refine blk_drew ?_ | refine blk_alloc ?_ _)); exact BK365.out) Tryd.underlying32 rfl (by kernel_rfl)) rfl ?_
        exact ⟨_, by first | rfl | (simp [errW_none, errW_some] <;> rfl) | (simp [*, errW_none, errW_some] <;> rfl), by first | exact Kd.R_nil _ _ _ _ _ | exact Kd.N_nil _ _ _ _ _ | exact Kd.V_nil _ _ _ _ _ | exact Kd.Q_nil _ _ _ _ _ | exact Kd.S_nil _ _ _ _ _, by repeat (first | (with_reducible first | exact HB.out | apply below_alloc | apply pw_below_drewN | apply below_drew1 | refine below_set ?_ GE365.out | refine below_set ?_ GE366.out) | exact HB.out)⟩
      · rw [if_neg c9] at H
        have c9b0 : ((l1.length : Int) == 0) = false := beq_eq_false_iff_ne.mpr c9
        have c9b1 : ((l1.length : Int) != 0) = true := bne_iff_ne.mpr c9
        have c9b2 : ¬ (l1 = []) := fun h_ => c9 (by rw [h_]; rfl)
        (first | rw [c9b0] | (simp only [i64_w, i32_w]; rw [c9b0]) | skip)
        obtain ⟨ji12, hji12⟩ : ∃ j_ : Int, (wrap64 ((l1.length : Int) - 1)) = j_ := ⟨_, rfl⟩
        replace H : (if 0 ≤ (ji12) then (if (ji12) < (l1.length : Int) then (if (ji12) ≤ (l1.length : Int) then (desc_Make.j0 k (l1.take ((ji12) : Int).toNat) false ((rd_T26 l1 (ji12)).f0) ((rd_T26 l1 (ji12)).f1)) else (none)) else (none)) else (none)) = some (r1, r2, r3, r4, r5) := by first | (rw [hji12] at H; exact H) | (simp only [hji12] at H ⊢; exact H)
        have hji12w : (IntKind.i64.wrap ((l1.length : Int) - 1)) = ji12 := (i64_w _).trans hji12
        by_cases c13 : 0 ≤ (ji12)
        · rw [if_pos c13] at H
          have c13b0 : decide (0 ≤ (ji12)) = true := decide_eq_true c13
          clear c13
          by_cases c14 : (ji12) < (l1.length : Int)
          · rw [if_pos c14] at H
            have c14b0 : decide ((ji12) < (l1.length : Int)) = true := decide_eq_true c14
            clear c14
            have c15b0 := eq_true (of_decide_eq_true (by first | (with_reducible assumption) | assumption) : 0 ≤ (ji12))
            by_cases c16 : (ji12) ≤ (l1.length : Int)
            · rw [if_pos c16] at H
              have c16b0 := eq_true c16
              have c16b1 : decide ((ji12) ≤ (l1.length : Int)) = true := decide_eq_true c16
              clear c16
              obtain ⟨y368, hy368⟩ : ∃ y_ : List (S26), y_ = (l1.take ((ji12) : Int).toNat) := ⟨_, rfl⟩
              replace H : (desc_Make.j0 k y368 false ((rd_T26 l1 (ji12)).f0) ((rd_T26 l1 (ji12)).f1)) = some (r1, r2, r3, r4, r5) := by first | (rw [hy368]; with_reducible exact H) | (have H2_ := (Option.bind_some _ _).symm.trans H; rw [hy368]; with_reducible exact H2_) | (have H2_ := (Option.bind_some _ _).symm.trans H; with_reducible exact H2_) | with_reducible exact H | (rw [hy368]; exact H) | exact H
              have Ny368 := Aside0.mk hy368
              clear hy368
              have H' := Aside0.mk H
              clear H
              have p367 : 0 ≤ ((ji12) : Int) := of_decide_eq_true (by first | (with_reducible assumption) | assumption)
              have q367 : (ji12) < (l1.length : Int) := of_decide_eq_true (by first | (with_reducible assumption) | assumption)
              obtain ⟨ad367, e367, hx367_0, hx367_1⟩ := at_T26 (Kd.V_reads' HO1.out).2.2 (ji12) p367 q367
              cases e367
              have hn367_0 : ad367.block ≠ gb366 := (by have hin_ := Kd.F_in (Kd.V_F HO1.out) rfl (by omega) (by decide); first | exact hin_.2 | exact hin_.1.2 | exact hin_.1.1.2)
              have hn367_1 : ad367.block ≠ gb366 := (by have hin_ := Kd.F_in (Kd.V_F HO1.out) rfl (by omega) (by decide); first | exact hin_.2 | exact hin_.1.2 | exact hin_.1.1.2)
              have hn367_2 : ad367.block ≠ gb366 := (by have hin_ := Kd.F_in (Kd.V_F HO1.out) rfl (by omega) (by decide); first | exact hin_.2 | exact hin_.1.2 | exact hin_.1.1.2)
              have hn367_3 : ad367.block ≠ gb366 := (by have hin_ := Kd.F_in (Kd.V_F HO1.out) rfl (by omega) (by decide); first | exact hin_.2 | exact hin_.1.2 | exact hin_.1.1.2)
              replace hx367_0 := (cell_far (p := ⟨gb366, 0, none⟩) (by first | (rw [add_block]; exact hn367_0) | (show (Addr.add _ _).block ≠ _; rw [add_block]; exact hn367_0) | exact hn367_0) (.slice none 0 0)).trans hx367_0
              replace hx367_1 := (cell_far (p := ⟨gb366, 0, none⟩) (by first | (rw [add_block]; exact hn367_0) | (show (Addr.add _ _).block ≠ _; rw [add_block]; exact hn367_0) | exact hn367_0) (.slice none 0 0)).trans hx367_1
              replace hx367_0 := (cell_far (p := ⟨gb366, 1, none⟩) (by first | (rw [add_block]; exact hn367_1) | (show (Addr.add _ _).block ≠ _; rw [add_block]; exact hn367_1) | exact hn367_1) (.bool false)).trans hx367_0
              replace hx367_1 := (cell_far (p := ⟨gb366, 1, none⟩) (by first | (rw [add_block]; exact hn367_1) | (show (Addr.add _ _).block ≠ _; rw [add_block]; exact hn367_1) | exact hn367_1) (.bool false)).trans hx367_1
              replace hx367_0 := (cell_far (p := ⟨gb366, 2, none⟩) (by first | (rw [add_block]; exact hn367_2) | (show (Addr.add _ _).block ≠ _; rw [add_block]; exact hn367_2) | exact hn367_2) (.int .i64 0)).trans hx367_0
              replace hx367_1 := (cell_far (p := ⟨gb366, 2, none⟩) (by first | (rw [add_block]; exact hn367_2) | (show (Addr.add _ _).block ≠ _; rw [add_block]; exact hn367_2) | exact hn367_2) (.int .i64 0)).trans hx367_1
              replace hx367_0 := (cell_far (p := ⟨gb366, 3, none⟩) (by first | (rw [add_block]; exact hn367_3) | (show (Addr.add _ _).block ≠ _; rw [add_block]; exact hn367_3) | exact hn367_3) (.string (⟨#[]⟩ : ByteArray))).trans hx367_0
              replace hx367_1 := (cell_far (p := ⟨gb366, 3, none⟩) (by first | (rw [add_block]; exact hn367_3) | (show (Addr.add _ _).block ≠ _; rw [add_block]; exact hn367_3) | exact hn367_3) (.string (⟨#[]⟩ : ByteArray))).trans hx367_1
              clear hn367_0
              clear hn367_1
              clear hn367_2
              clear hn367_3
              replace p367 := eq_true p367
              replace q367 := eq_true q367
              have hnb17 := NB366_365.out
              have hnc17 := NB365_366.out
              have hcz18_0 : w5.cell? ⟨gb366, 0, none⟩ = some (.slice none 0 0) := (blk_cell BK366.out 0).trans rfl
              have hcz18_1 : w5.cell? ⟨gb366, 1, none⟩ = some (.bool false) := (blk_cell BK366.out 1).trans rfl
              have hcz18_2 : w5.cell? ⟨gb366, 2, none⟩ = some (.int .i64 0) := (blk_cell BK366.out 2).trans rfl
              have hcz18_3 : w5.cell? ⟨gb366, 3, none⟩ = some (.string (⟨#[]⟩ : ByteArray)) := (blk_cell BK366.out 3).trans rfl
              have hfz18_0 := blk_frozen BK366.out 0
              have hfz18_1 := blk_frozen BK366.out 1
              have hfz18_2 := blk_frozen BK366.out 2
              have hfz18_3 := blk_frozen BK366.out 3
              go_wp2_with (first | ((with_reducible refine gate_store (t := 26) (p := 23) rfl ?_); refine store_event (t := 26) (p := 23) (v := ?vo_w19) (w1 := ((((((w5.setCell ⟨gb366, 0, none⟩ (.slice none 0 0)).setCell ⟨gb366, 1, none⟩ (.bool false)).setCell ⟨gb366, 2, none⟩ (.int .i64 0)).setCell ⟨gb366, 3, none⟩ (.string (⟨#[]⟩ : ByteArray))).setCell ⟨gb366, 2, none⟩ (.int .i64 ((rd_T26 l1 (ji12)).f0))).setCell ⟨gb366, 3, none⟩ (.string ((rd_T26 l1 (ji12)).f1)))) ?hg ?ho ?hn ?hr ?_; (case ho => rfl); (case hg => rfl); (case hn => rfl); (case hr => first | (go_simp; done) | (go_simp; rfl)); intro w19 hw; have n0_ : Aside0 (Kd.V k26 26 w19 w.heap.size (fun k_ => (P1_ k_ ∨ w.heap.size ≤ k_) ∧ k_ ≠ gb365 ∧ k_ ≠ gb366) (.slice (some ad367) l1.length c1) l1) := ⟨(by rw [hw]; exact (by (with_reducible repeat (first | apply Kd.V_alloc | apply Kd.V_drewN | apply Kd.V_drew)); exact Kd.V_mono (Kd.V_far (p := ⟨gb366, 3, none⟩) (Kd.V_far (p := ⟨gb366, 2, none⟩) (Kd.V_far (p := ⟨gb366, 3, none⟩) (Kd.V_far (p := ⟨gb366, 2, none⟩) (Kd.V_far (p := ⟨gb366, 1, none⟩) (Kd.V_far (p := ⟨gb366, 0, none⟩) (Kd.V_mono HO1.out (fun k_ hk => (⟨hk, hk.2⟩ : _ ∧ k_ ≠ gb366))) (fun _ hk => hk.2) (.slice none 0 0)) (fun _ hk => hk.2) (.bool false)) (fun _ hk => hk.2) (.int .i64 0)) (fun _ hk => hk.2) (.string (⟨#[]⟩ : ByteArray))) (fun _ hk => hk.2) (.int .i64 ((rd_T26 l1 (ji12)).f0))) (fun _ hk => hk.2) (.string ((rd_T26 l1 (ji12)).f1))) (fun _ hk => ⟨hk.1.1.1, ⟨hk.1.1.2, hk.1.2⟩⟩)))⟩; have n1_ : Aside0 (w19.heap[gb365]? = some (.cells #[.slice none 0 0, .bool false, .int .i64 0, .string (⟨#[]⟩ : ByteArray)] 32 (0, 0))) := ⟨(by rw [hw]; exact (by (with_reducible repeat (first | refine blk_drewN ?_ _ | refine blk_drew ?_ | refine blk_alloc ?_ _)); refine blk_far ?_ NB365_366.out _; (with_reducible repeat (first | refine blk_drewN ?_ _ | refine blk_drew ?_ | refine blk_alloc ?_ _)); refine blk_far ?_ NB365_366.out _; (with_reducible repeat (first | refine blk_drewN ?_ _ | refine blk_drew ?_ | refine blk_alloc ?_ _)); refine blk_far ?_ NB365_366.out _; (with_reducible repeat (first | refine blk_drewN ?_ _ | refine blk_drew ?_ | refine blk_alloc ?_ _)); refine blk_far ?_ NB365_366.out _; (with_reducible repeat (first | refine blk_drewN ?_ _ | refine blk_drew ?_ | refine blk_alloc ?_ _)); refine blk_far ?_ NB365_366.out _; (with_reducible repeat (first | refine blk_drewN ?_ _ | refine blk_drew ?_ | refine blk_alloc ?_ _)); refine blk_far ?_ NB365_366.out _; (with_reducible repeat (first | refine blk_drewN ?_ _ | refine blk_drew ?_ | refine blk_alloc ?_ _)); exact BK365.out))⟩; have n2_ : Aside0 (w19.heap[gb366]? = some (.cells #[.slice none 0 0, .bool false, .int .i64 ((rd_T26 l1 (ji12)).f0), .string ((rd_T26 l1 (ji12)).f1)] 32 (0, 0))) := ⟨(by rw [hw]; exact (by (with_reducible repeat (first | refine blk_drewN ?_ _ | refine blk_drew ?_ | refine blk_alloc ?_ _)); refine blk_put (cs := #[.slice none 0 0, .bool false, .int .i64 ((rd_T26 l1 (ji12)).f0), .string (⟨#[]⟩ : ByteArray)]) ?_ 3 _ rfl; (with_reducible repeat (first | refine blk_drewN ?_ _ | refine blk_drew ?_ | refine blk_alloc ?_ _)); refine blk_put (cs := #[.slice none 0 0, .bool false, .int .i64 0, .string (⟨#[]⟩ : ByteArray)]) ?_ 2 _ rfl; (with_reducible repeat (first | refine blk_drewN ?_ _ | refine blk_drew ?_ | refine blk_alloc ?_ _)); refine blk_put (cs := #[.slice none 0 0, .bool false, .int .i64 0, .string (⟨#[]⟩ : ByteArray)]) ?_ 3 _ rfl; (with_reducible repeat (first | refine blk_drewN ?_ _ | refine blk_drew ?_ | refine blk_alloc ?_ _)); refine blk_put (cs := #[.slice none 0 0, .bool false, .int .i64 0, .string (⟨#[]⟩ : ByteArray)]) ?_ 2 _ rfl; (with_reducible repeat (first | refine blk_drewN ?_ _ | refine blk_drew ?_ | refine blk_alloc ?_ _)); refine blk_put (cs := #[.slice none 0 0, .bool false, .int .i64 0, .string (⟨#[]⟩ : ByteArray)]) ?_ 1 _ rfl; (with_reducible repeat (first | refine blk_drewN ?_ _ | refine blk_drew ?_ | refine blk_alloc ?_ _)); refine blk_put (cs := #[.slice none 0 0, .bool false, .int .i64 0, .string (⟨#[]⟩ : ByteArray)]) ?_ 0 _ rfl; (with_reducible repeat (first | refine blk_drewN ?_ _ | refine blk_drew ?_ | refine blk_alloc ?_ _)); exact BK366.out))⟩; have n3_ : Aside0 (Below w.heap.size w w19) := ⟨(by rw [hw]; exact (by repeat (first | (with_reducible first | exact HB.out | apply below_alloc | apply pw_below_drewN | apply below_drew1 | refine below_set ?_ GE365.out | refine below_set ?_ GE366.out) | exact HB.out)))⟩; clear hw; clear HO1; clear BK365; clear BK366; clear HB; have HO1 := n0_; have BK365 := n1_; have BK366 := n2_; have HB := n3_; clear n0_ n1_ n2_ n3_; have q20 : ((ji12) : Int) ≤ ((l1.length : Int) : Int) := of_decide_eq_true (by first | (with_reducible assumption) | assumption); obtain ⟨i020, hi020, _, hsz20, _⟩ := info_parts info26; have hroom20 : l1.length ≤ c1 := (Kd.V_reads' HO1.out).2.1; have hC20 : Kd.F k26 _ _ (some ad367) l1.length l1 := (Kd.V_at (base := w.heap.size) HO1.out).2.2; have hcut20 := cut_to (P := Tryd.prog) 30 26 .i64 Tryd.underlying30 hi020 (some ad367) l1.length c1 (ji12) (of_decide_eq_true (by first | (with_reducible assumption) | assumption)) q20 hroom20; have hr20 := Kd.F_take (m := ((ji12) : Int).toNat) hC20 (by omega); have hy20 : y368.length = ((ji12) : Int).toNat := (by rw [Ny368.out, List.length_take]; omega); rw [← Ny368.out] at hr20; rw [← hy20] at hcut20; have HO372 := Aside0.mk (show Kd.V k26 26 _ w.heap.size _ (.slice (some ad367) y368.length c1) y368 from Kd.V_mk (by omega) hr20); have HC372 := Aside0.mk (show y368.length ≤ c1 from by omega); clear hr20 hC20 hroom20 hi020 hsz20; have KY20 := Aside0.mk hy20; clear hy20; replace q20 := eq_true q20))
              go_meet
              case rel => exact ⟨_, (y368), (false), (0), ((⟨#[]⟩ : ByteArray)), ((rd_T26 l1 (ji12)).f0), ((rd_T26 l1 (ji12)).f1), H', ⟨by first | omega | exact Nat.le_refl _⟩, ⟨by (with_reducible repeat (first | apply Kd.V_alloc | apply Kd.V_drewN | apply Kd.V_drew)); exact HO372.out⟩, ⟨by (with_reducible repeat (first | refine blk_drewN ?_ _ | refine blk_drew ?_ | refine blk_alloc ?_ _)); exact BK365.out⟩, ⟨by (with_reducible repeat (first | refine blk_drewN ?_ _ | refine blk_drew ?_ | refine blk_alloc ?_ _)); exact BK366.out⟩, ⟨by repeat (first | (with_reducible first | exact HB.out | apply below_alloc | apply pw_below_drewN | apply below_drew1 | refine below_set ?_ GE365.out | refine below_set ?_ GE366.out) | exact HB.out)⟩⟩
            · rw [if_neg c16] at H
              exact absurd H (by simp)
          · rw [if_neg c14] at H
            exact absurd H (by simp)
        · rw [if_neg c13] at H
          exact absurd H (by simp)
  case rest =>
    clear HC3
    try clear c1
    try clear p2
    try clear q2
    try clear p3
    try clear q3
    try clear hx3
    try clear c4
    try clear c6
    try clear p6
    try clear c8
    try clear c9
    try clear c9b0
    try clear c9b1
    try clear c9b2
    try clear c10
    try clear c13
    try clear c13b0
    try clear c14
    try clear c14b0
    try clear c15
    try clear c15b0
    try clear c16
    try clear c16b0
    try clear c16b1
    try clear c17
    try clear q20
    try clear hcz11_0
    try clear hcz11_1
    try clear hcz11_2
    try clear hcz11_3
    try clear hcz18_0
    try clear hcz18_1
    try clear hcz18_2
    try clear hcz18_3
    try clear hcz7_0
    try clear hcz7_1
    try clear hcz7_2
    try clear hcz7_3
    try clear hfz11_0
    try clear hfz11_1
    try clear hfz11_2
    try clear hfz11_3
    try clear hfz18_0
    try clear hfz18_1
    try clear hfz18_2
    try clear hfz18_3
    try clear hfz7_0
    try clear hfz7_1
    try clear hfz7_2
    try clear hfz7_3
    try clear hx367_0
    try clear hx367_1
    try clear p367
    try clear q20
    try clear q367
    obtain ⟨kq, x1_2, x366001_2, x366002_2, x366003_2, x367002_2, x367003_2, HA, HJ2, HO_1, BK365, BK366, HB⟩ := hcut
    cases kq with
    | zero => exact absurd HA.out (by simp [desc_Make.j0])
    | succ kj2 =>
      have H := HA.out
      clear HA
      simp only [desc_Make.j0] at H
      replace H := Option.bind_eq_some_iff.mp H
      obtain ⟨t373, A210, H⟩ := H
      replace H : ((desc_SigText.f kj2 t373 a0 x367002_2 x367003_2).bind fun bt376 => (if bt376.2 = 0 then (some (t373, a0, x367002_2, x367003_2, 0)) else (some (([] : List (S26)), false, 0, (⟨#[]⟩ : ByteArray), bt376.2)))) = some (r1, r2, r3, r4, r5) := H
      have A21 := Aside0.mk A210
      clear A210
      replace H := Option.bind_eq_some_iff.mp H
      obtain ⟨⟨t376, t377⟩, A220, H⟩ := H
      replace H : (if t377 = 0 then (some (t373, a0, x367002_2, x367003_2, 0)) else (some (([] : List (S26)), false, 0, (⟨#[]⟩ : ByteArray), t377))) = some (r1, r2, r3, r4, r5) := H
      have A22 := Aside0.mk A220
      clear A220
      by_cases c23 : t377 = 0
      · rw [if_pos c23] at H
        have c23b0 : (t377 == 0) = true := beq_iff_eq.mpr c23
        have c23b1 : (t377 != 0) = false := bne_eq_false_iff_eq.mpr c23
        clear c23
        simp only [Option.some.injEq, Prod.mk.injEq] at H
        obtain ⟨rfl, rfl, rfl, rfl, rfl⟩ := H
        obtain ⟨Ao24, co24, eo24⟩ := Kd.V_slice HO_1.out
        subst eo24
        go_wp2_with (first | ((with_reducible refine gate_callee (f := 51) rfl ?_); refine goesL_ (some 30) rfl rfl Tryd.func51 (by kernel_rfl) rfl #[.slice Ao24 x1_2.length co24] rfl (by (try simp only [List.map_toArray, List.map_cons, List.map_nil]); first | done | rfl | (simp only [List.length_drop, List.length_take]; rfl)) ?_; (with_reducible refine (api_Type_51.calls _ _ x1_2 t373 _ ?side1 ?side2 A21.out).mono ?_); (case side1 => repeat (first | exact (Kd.V_reads' HO_1.out).2.2 | (with_reducible refine Kd.C_alloc ?_ _) | (with_reducible refine Kd.C_drewN ?_ _) | (with_reducible refine Kd.C_drew ?_))); (case side2 => exact (Kd.V_reads' HO_1.out).2.1); rintro e w25 ⟨v374, rfl, ho0, hb⟩; refine ⟨_, rfl, ?_⟩; have n0_ := Aside0.mk (Kd.V_elder' (by (with_reducible repeat (first | apply Kd.V_alloc | apply Kd.V_drewN | apply Kd.V_drew)); exact HO_1.out) (Kd.R_base ho0) hb); have n1_ := Aside0.mk (Kd.R_lower (Kd.R_newM (M := fun k_ => (w.heap.size ≤ k_)) ho0 (below_size (by repeat (first | (with_reducible first | exact HB.out | apply below_alloc | apply pw_below_drewN | apply below_drew1 | refine below_set ?_ GE365.out | refine below_set ?_ GE366.out) | exact HB.out))) (fun k_ h_ => h_)) (below_size (by repeat (first | (with_reducible first | exact HB.out | apply below_alloc | apply pw_below_drewN | apply below_drew1 | refine below_set ?_ GE365.out | refine below_set ?_ GE366.out) | exact HB.out)))); have n2_ := Aside0.mk (blk_below (g := gb365) (o := .cells #[.slice none 0 0, .bool x366001_2, .int .i64 x366002_2, .string x366003_2] 32 (0, 0)) (by (with_reducible repeat (first | refine blk_drewN ?_ _ | refine blk_drew ?_ | refine blk_alloc ?_ _)); exact BK365.out) hb); have n3_ := Aside0.mk (blk_below (g := gb366) (o := .cells #[.slice none 0 0, .bool a0, .int .i64 x367002_2, .string x367003_2] 32 (0, 0)) (by (with_reducible repeat (first | refine blk_drewN ?_ _ | refine blk_drew ?_ | refine blk_alloc ?_ _)); exact BK366.out) hb); have n4_ := Aside0.mk (below_step (by repeat (first | (with_reducible first | exact HB.out | apply below_alloc | apply pw_below_drewN | apply below_drew1 | refine below_set ?_ GE365.out | refine below_set ?_ GE366.out) | exact HB.out)) hb); clear HO_1; clear BK365; clear BK366; clear HB; have HO_1 := n0_; have HO375 := n1_; have BK365 := n2_; have BK366 := n3_; have HB := n4_; clear n0_ n1_ n2_ n3_ n4_; (try clear hb); (try clear hb2); (try clear hk); (try clear hi); (try clear ho0); obtain ⟨Ao26, co26, eo26⟩ := Kd.R_slice HO375.out; subst eo26; have hnb27 := NB366_365.out; have hnc27 := NB365_366.out; have hcz28_0 : w25.cell? ⟨gb366, 0, none⟩ = some (.slice none 0 0) := (blk_cell BK366.out 0).trans rfl; have hcz28_1 : w25.cell? ⟨gb366, 1, none⟩ = some (.bool a0) := (blk_cell BK366.out 1).trans rfl; have hcz28_2 : w25.cell? ⟨gb366, 2, none⟩ = some (.int .i64 x367002_2) := (blk_cell BK366.out 2).trans rfl; have hcz28_3 : w25.cell? ⟨gb366, 3, none⟩ = some (.string x367003_2) := (blk_cell BK366.out 3).trans rfl; have hfz28_0 := blk_frozen BK366.out 0; have hfz28_1 := blk_frozen BK366.out 1; have hfz28_2 := blk_frozen BK366.out 2; have hfz28_3 := blk_frozen BK366.out 3) | ((with_reducible refine gate_callee (f := 35) rfl ?_); refine goesL_ (some 34) rfl rfl Tryd.func35 (by kernel_rfl) rfl #[.agg #[.slice Ao26 t373.length co26, .bool a0, .int .i64 x367002_2, .string x367003_2]] rfl (by (try simp only [List.map_toArray, List.map_cons, List.map_nil]); first | done | rfl | (simp only [List.length_drop, List.length_take]; rfl)) ?_; (with_reducible refine (desc_SigText.calls kj2 _ _ t373 a0 x367002_2 x367003_2 t376 t377 _ ?side1 ?side2 A22.out).mono ?_); (case side1 => refine (Kd.R_reads' (e := 26) (base := w.heap.size) (ok := fun k_ => ((w.heap.size ≤ k_) ∧ True)) (n := t373.length) (c := co26) ?_).2.2; exact (by (with_reducible repeat (first | apply Kd.R_alloc | apply Kd.R_drewN | apply Kd.R_drew)); exact (Kd.R_mono (Kd.R_far (p := ⟨gb366, 0, none⟩) (Kd.R_types HO375.out BK366.out (by decide)) (fun _ hk => hk.2) (.slice Ao26 t373.length co26)) (fun _ h_ => h_.1)))); (case side2 => exact (Kd.R_reads' HO375.out).2.1); rintro e w29 ⟨rfl, hb⟩; refine ⟨_, rfl, ?_⟩; have n0_ := Aside0.mk (Kd.V_below (by (with_reducible repeat (first | apply Kd.V_alloc | apply Kd.V_drewN | apply Kd.V_drew)); exact (Kd.V_mono (Kd.V_far (p := ⟨gb366, 0, none⟩) (Kd.V_mono HO_1.out (fun k_ hk => (⟨hk, hk.1.2.2⟩ : _ ∧ k_ ≠ gb366))) (fun _ hk => hk.2) (.slice Ao26 t373.length co26)) (fun _ h_ => h_.1))) hb); have n1_ := Aside0.mk (Kd.R_below (by (with_reducible repeat (first | apply Kd.R_alloc | apply Kd.R_drewN | apply Kd.R_drew)); exact (Kd.R_mono (Kd.R_far (p := ⟨gb366, 0, none⟩) (Kd.R_types HO375.out BK366.out (by decide)) (fun _ hk => hk.2) (.slice Ao26 t373.length co26)) (fun _ h_ => h_.1))) hb); have n2_ := Aside0.mk (blk_below (g := gb365) (o := .cells #[.slice none 0 0, .bool x366001_2, .int .i64 x366002_2, .string x366003_2] 32 (0, 0)) (by (with_reducible repeat (first | refine blk_drewN ?_ _ | refine blk_drew ?_ | refine blk_alloc ?_ _)); refine blk_far ?_ NB365_366.out _; (with_reducible repeat (first | refine blk_drewN ?_ _ | refine blk_drew ?_ | refine blk_alloc ?_ _)); exact BK365.out) hb); have n3_ := Aside0.mk (blk_below (g := gb366) (o := .cells #[.slice Ao26 t373.length co26, .bool a0, .int .i64 x367002_2, .string x367003_2] 32 (0, 0)) (by (with_reducible repeat (first | refine blk_drewN ?_ _ | refine blk_drew ?_ | refine blk_alloc ?_ _)); refine blk_put (cs := #[.slice none 0 0, .bool a0, .int .i64 x367002_2, .string x367003_2]) ?_ 0 _ rfl; (with_reducible repeat (first | refine blk_drewN ?_ _ | refine blk_drew ?_ | refine blk_alloc ?_ _)); exact BK366.out) hb); have n4_ := Aside0.mk (below_step (by repeat (first | (with_reducible first | exact HB.out | apply below_alloc | apply pw_below_drewN | apply below_drew1 | refine below_set ?_ GE365.out | refine below_set ?_ GE366.out) | exact HB.out)) hb); clear HO_1; clear HO375; clear BK365; clear BK366; clear HB; have HO_1 := n0_; have HO375 := n1_; have BK365 := n2_; have BK366 := n3_; have HB := n4_; clear n0_ n1_ n2_ n3_ n4_; (try clear hb); (try clear hb2); (try clear hk); (try clear hi); have hcz30_0 : w29.cell? ⟨gb366, 0, none⟩ = some (.slice Ao26 t373.length co26) := (blk_cell BK366.out 0).trans rfl; have hcz30_1 : w29.cell? ⟨gb366, 1, none⟩ = some (.bool a0) := (blk_cell BK366.out 1).trans rfl; have hcz30_2 : w29.cell? ⟨gb366, 2, none⟩ = some (.int .i64 x367002_2) := (blk_cell BK366.out 2).trans rfl; have hcz30_3 : w29.cell? ⟨gb366, 3, none⟩ = some (.string x367003_2) := (blk_cell BK366.out 3).trans rfl; have hfz30_0 := blk_frozen BK366.out 0; have hfz30_1 := blk_frozen BK366.out 1; have hfz30_2 := blk_frozen BK366.out 2; have hfz30_3 := blk_frozen BK366.out 3; have hcz31_0 : w29.cell? ⟨gb365, 0, none⟩ = some (.slice none 0 0) := (blk_cell BK365.out 0).trans rfl; have hcz31_1 : w29.cell? ⟨gb365, 1, none⟩ = some (.bool x366001_2) := (blk_cell BK365.out 1).trans rfl; have hcz31_2 : w29.cell? ⟨gb365, 2, none⟩ = some (.int .i64 x366002_2) := (blk_cell BK365.out 2).trans rfl; have hcz31_3 : w29.cell? ⟨gb365, 3, none⟩ = some (.string x366003_2) := (blk_cell BK365.out 3).trans rfl; have hfz31_0 := blk_frozen BK365.out 0; have hfz31_1 := blk_frozen BK365.out 1; have hfz31_2 := blk_frozen BK365.out 2; have hfz31_3 := blk_frozen BK365.out 3))
        refine bodyPost_ret (results_ct rfl _ _ gb365 32 #[.slice Ao26 t373.length co26, .bool a0, .int .i64 x367002_2, .string x367003_2] (0, 0) _ rfl (by (with_reducible repeat (first | refine blk_drewN ?_ _ | refine blk_drew ?_ | refine blk_alloc ?_ _)); refine blk_put (cs := #[.slice Ao26 t373.length co26, .bool a0, .int .i64 x367002_2, .string x366003_2]) ?_ 3 _ rfl; (with_reducible repeat (first | refine blk_drewN ?_ _ | refine blk_drew ?_ | refine blk_alloc ?_ _)); refine blk_put (cs := #[.slice Ao26 t373.length co26, .bool a0, .int .i64 x366002_2, .string x366003_2]) ?_ 2 _ rfl; (with_reducible repeat (first | refine blk_drewN ?_ _ | refine blk_drew ?_ | refine blk_alloc ?_ _)); refine blk_put (cs := #[.slice Ao26 t373.length co26, .bool x366001_2, .int .i64 x366002_2, .string x366003_2]) ?_ 1 _ rfl; (with_reducible repeat (first | refine blk_drewN ?_ _ | refine blk_drew ?_ | refine blk_alloc ?_ _)); refine blk_put (cs := #[.slice none 0 0, .bool x366001_2, .int .i64 x366002_2, .string x366003_2]) ?_ 0 _ rfl; (with_reducible repeat (first | refine blk_drewN ?_ _ | refine blk_drew ?_ | refine blk_alloc ?_ _)); exact BK365.out) Tryd.underlying32 rfl (by kernel_rfl)) rfl ?_
        exact ⟨_, by first | rfl | (simp [errW_none, errW_some] <;> rfl) | (simp [*, errW_none, errW_some] <;> rfl), by (with_reducible repeat (first | apply Kd.R_alloc | apply Kd.R_drewN | apply Kd.R_drew)); exact Kd.R_mono (Kd.R_far (p := ⟨gb365, 3, none⟩) (Kd.R_far (p := ⟨gb365, 2, none⟩) (Kd.R_far (p := ⟨gb365, 1, none⟩) (Kd.R_far (p := ⟨gb365, 0, none⟩) (Kd.R_types HO375.out BK365.out (by decide)) (fun _ hk => hk.2) (.slice Ao26 t373.length co26)) (fun _ hk => hk.2) (.bool a0)) (fun _ hk => hk.2) (.int .i64 x367002_2)) (fun _ hk => hk.2) (.string x367003_2)) (fun _ hk => hk.1.1), by repeat (first | (with_reducible first | exact HB.out | apply below_alloc | apply pw_below_drewN | apply below_drew1 | refine below_set ?_ GE365.out | refine below_set ?_ GE366.out) | exact HB.out)⟩
      · rw [if_neg c23] at H
        have c23b0 : (t377 == 0) = false := beq_eq_false_iff_ne.mpr c23
        have c23b1 : (t377 != 0) = true := bne_iff_ne.mpr c23
        simp only [Option.some.injEq, Prod.mk.injEq] at H
        obtain ⟨rfl, rfl, rfl, rfl, rfl⟩ := H
        obtain ⟨Ao32, co32, eo32⟩ := Kd.V_slice HO_1.out
        subst eo32
        go_wp2_with (first | ((with_reducible refine gate_callee (f := 51) rfl ?_); refine goesL_ (some 30) rfl rfl Tryd.func51 (by kernel_rfl) rfl #[.slice Ao32 x1_2.length co32] rfl (by (try simp only [List.map_toArray, List.map_cons, List.map_nil]); first | done | rfl | (simp only [List.length_drop, List.length_take]; rfl)) ?_; (with_reducible refine (api_Type_51.calls _ _ x1_2 t373 _ ?side1 ?side2 A21.out).mono ?_); (case side1 => repeat (first | exact (Kd.V_reads' HO_1.out).2.2 | (with_reducible refine Kd.C_alloc ?_ _) | (with_reducible refine Kd.C_drewN ?_ _) | (with_reducible refine Kd.C_drew ?_))); (case side2 => exact (Kd.V_reads' HO_1.out).2.1); rintro e w33 ⟨v374, rfl, ho0, hb⟩; refine ⟨_, rfl, ?_⟩; have n0_ := Aside0.mk (Kd.V_elder' (by (with_reducible repeat (first | apply Kd.V_alloc | apply Kd.V_drewN | apply Kd.V_drew)); exact HO_1.out) (Kd.R_base ho0) hb); have n1_ := Aside0.mk (Kd.R_lower (Kd.R_newM (M := fun k_ => (w.heap.size ≤ k_)) ho0 (below_size (by repeat (first | (with_reducible first | exact HB.out | apply below_alloc | apply pw_below_drewN | apply below_drew1 | refine below_set ?_ GE365.out | refine below_set ?_ GE366.out) | exact HB.out))) (fun k_ h_ => h_)) (below_size (by repeat (first | (with_reducible first | exact HB.out | apply below_alloc | apply pw_below_drewN | apply below_drew1 | refine below_set ?_ GE365.out | refine below_set ?_ GE366.out) | exact HB.out)))); have n2_ := Aside0.mk (blk_below (g := gb365) (o := .cells #[.slice none 0 0, .bool x366001_2, .int .i64 x366002_2, .string x366003_2] 32 (0, 0)) (by (with_reducible repeat (first | refine blk_drewN ?_ _ | refine blk_drew ?_ | refine blk_alloc ?_ _)); exact BK365.out) hb); have n3_ := Aside0.mk (blk_below (g := gb366) (o := .cells #[.slice none 0 0, .bool a0, .int .i64 x367002_2, .string x367003_2] 32 (0, 0)) (by (with_reducible repeat (first | refine blk_drewN ?_ _ | refine blk_drew ?_ | refine blk_alloc ?_ _)); exact BK366.out) hb); have n4_ := Aside0.mk (below_step (by repeat (first | (with_reducible first | exact HB.out | apply below_alloc | apply pw_below_drewN | apply below_drew1 | refine below_set ?_ GE365.out | refine below_set ?_ GE366.out) | exact HB.out)) hb); clear HO_1; clear BK365; clear BK366; clear HB; have HO_1 := n0_; have HO375 := n1_; have BK365 := n2_; have BK366 := n3_; have HB := n4_; clear n0_ n1_ n2_ n3_ n4_; (try clear hb); (try clear hb2); (try clear hk); (try clear hi); (try clear ho0); obtain ⟨Ao34, co34, eo34⟩ := Kd.R_slice HO375.out; subst eo34; have hnb35 := NB366_365.out; have hnc35 := NB365_366.out; have hcz36_0 : w33.cell? ⟨gb366, 0, none⟩ = some (.slice none 0 0) := (blk_cell BK366.out 0).trans rfl; have hcz36_1 : w33.cell? ⟨gb366, 1, none⟩ = some (.bool a0) := (blk_cell BK366.out 1).trans rfl; have hcz36_2 : w33.cell? ⟨gb366, 2, none⟩ = some (.int .i64 x367002_2) := (blk_cell BK366.out 2).trans rfl; have hcz36_3 : w33.cell? ⟨gb366, 3, none⟩ = some (.string x367003_2) := (blk_cell BK366.out 3).trans rfl; have hfz36_0 := blk_frozen BK366.out 0; have hfz36_1 := blk_frozen BK366.out 1; have hfz36_2 := blk_frozen BK366.out 2; have hfz36_3 := blk_frozen BK366.out 3) | ((with_reducible refine gate_callee (f := 35) rfl ?_); refine goesL_ (some 34) rfl rfl Tryd.func35 (by kernel_rfl) rfl #[.agg #[.slice Ao34 t373.length co34, .bool a0, .int .i64 x367002_2, .string x367003_2]] rfl (by (try simp only [List.map_toArray, List.map_cons, List.map_nil]); first | done | rfl | (simp only [List.length_drop, List.length_take]; rfl)) ?_; (with_reducible refine (desc_SigText.calls kj2 _ _ t373 a0 x367002_2 x367003_2 t376 t377 _ ?side1 ?side2 A22.out).mono ?_); (case side1 => refine (Kd.R_reads' (e := 26) (base := w.heap.size) (ok := fun k_ => ((w.heap.size ≤ k_) ∧ True)) (n := t373.length) (c := co34) ?_).2.2; exact (by (with_reducible repeat (first | apply Kd.R_alloc | apply Kd.R_drewN | apply Kd.R_drew)); exact (Kd.R_mono (Kd.R_far (p := ⟨gb366, 0, none⟩) (Kd.R_types HO375.out BK366.out (by decide)) (fun _ hk => hk.2) (.slice Ao34 t373.length co34)) (fun _ h_ => h_.1)))); (case side2 => exact (Kd.R_reads' HO375.out).2.1); rintro e w37 ⟨rfl, hb⟩; refine ⟨_, rfl, ?_⟩; have n0_ := Aside0.mk (Kd.V_below (by (with_reducible repeat (first | apply Kd.V_alloc | apply Kd.V_drewN | apply Kd.V_drew)); exact (Kd.V_mono (Kd.V_far (p := ⟨gb366, 0, none⟩) (Kd.V_mono HO_1.out (fun k_ hk => (⟨hk, hk.1.2.2⟩ : _ ∧ k_ ≠ gb366))) (fun _ hk => hk.2) (.slice Ao34 t373.length co34)) (fun _ h_ => h_.1))) hb); have n1_ := Aside0.mk (Kd.R_below (by (with_reducible repeat (first | apply Kd.R_alloc | apply Kd.R_drewN | apply Kd.R_drew)); exact (Kd.R_mono (Kd.R_far (p := ⟨gb366, 0, none⟩) (Kd.R_types HO375.out BK366.out (by decide)) (fun _ hk => hk.2) (.slice Ao34 t373.length co34)) (fun _ h_ => h_.1))) hb); have n2_ := Aside0.mk (blk_below (g := gb365) (o := .cells #[.slice none 0 0, .bool x366001_2, .int .i64 x366002_2, .string x366003_2] 32 (0, 0)) (by (with_reducible repeat (first | refine blk_drewN ?_ _ | refine blk_drew ?_ | refine blk_alloc ?_ _)); refine blk_far ?_ NB365_366.out _; (with_reducible repeat (first | refine blk_drewN ?_ _ | refine blk_drew ?_ | refine blk_alloc ?_ _)); exact BK365.out) hb); have n3_ := Aside0.mk (blk_below (g := gb366) (o := .cells #[.slice Ao34 t373.length co34, .bool a0, .int .i64 x367002_2, .string x367003_2] 32 (0, 0)) (by (with_reducible repeat (first | refine blk_drewN ?_ _ | refine blk_drew ?_ | refine blk_alloc ?_ _)); refine blk_put (cs := #[.slice none 0 0, .bool a0, .int .i64 x367002_2, .string x367003_2]) ?_ 0 _ rfl; (with_reducible repeat (first | refine blk_drewN ?_ _ | refine blk_drew ?_ | refine blk_alloc ?_ _)); exact BK366.out) hb); have n4_ := Aside0.mk (below_step (by repeat (first | (with_reducible first | exact HB.out | apply below_alloc | apply pw_below_drewN | apply below_drew1 | refine below_set ?_ GE365.out | refine below_set ?_ GE366.out) | exact HB.out)) hb); clear HO_1; clear HO375; clear BK365; clear BK366; clear HB; have HO_1 := n0_; have HO375 := n1_; have BK365 := n2_; have BK366 := n3_; have HB := n4_; clear n0_ n1_ n2_ n3_ n4_; (try clear hb); (try clear hb2); (try clear hk); (try clear hi); have hcz38_0 : w37.cell? ⟨gb365, 0, none⟩ = some (.slice none 0 0) := (blk_cell BK365.out 0).trans rfl; have hcz38_1 : w37.cell? ⟨gb365, 1, none⟩ = some (.bool x366001_2) := (blk_cell BK365.out 1).trans rfl; have hcz38_2 : w37.cell? ⟨gb365, 2, none⟩ = some (.int .i64 x366002_2) := (blk_cell BK365.out 2).trans rfl; have hcz38_3 : w37.cell? ⟨gb365, 3, none⟩ = some (.string x366003_2) := (blk_cell BK365.out 3).trans rfl; have hfz38_0 := blk_frozen BK365.out 0; have hfz38_1 := blk_frozen BK365.out 1; have hfz38_2 := blk_frozen BK365.out 2; have hfz38_3 := blk_frozen BK365.out 3))
        refine bodyPost_ret (results_ct rfl _ _ gb365 32 #[.slice none 0 0, .bool false, .int .i64 0, .string (⟨#[]⟩ : ByteArray)] (0, 0) _ rfl (by (with_reducible repeat (first | refine blk_drewN ?_ _ | refine blk_drew ?_ | refine blk_alloc ?_ _)); refine blk_put (cs := #[.slice none 0 0, .bool false, .int .i64 0, .string x366003_2]) ?_ 3 _ rfl; (with_reducible repeat (first | refine blk_drewN ?_ _ | refine blk_drew ?_ | refine blk_alloc ?_ _)); refine blk_put (cs := #[.slice none 0 0, .bool false, .int .i64 x366002_2, .string x366003_2]) ?_ 2 _ rfl; (with_reducible repeat (first | refine blk_drewN ?_ _ | refine blk_drew ?_ | refine blk_alloc ?_ _)); refine blk_put (cs := #[.slice none 0 0, .bool x366001_2, .int .i64 x366002_2, .string x366003_2]) ?_ 1 _ rfl; (with_reducible repeat (first | refine blk_drewN ?_ _ | refine blk_drew ?_ | refine blk_alloc ?_ _)); refine blk_put (cs := #[.slice none 0 0, .bool x366001_2, .int .i64 x366002_2, .string x366003_2]) ?_ 0 _ rfl; (with_reducible repeat (first | refine blk_drewN ?_ _ | refine blk_drew ?_ | refine blk_alloc ?_ _)); exact BK365.out) Tryd.underlying32 rfl (by kernel_rfl)) rfl ?_
        exact ⟨_, by first | rfl | (simp [errW_none, errW_some] <;> rfl) | (simp [*, errW_none, errW_some] <;> rfl), by first | exact Kd.R_nil _ _ _ _ _ | exact Kd.N_nil _ _ _ _ _ | exact Kd.V_nil _ _ _ _ _ | exact Kd.Q_nil _ _ _ _ _ | exact Kd.S_nil _ _ _ _ _, by repeat (first | (with_reducible first | exact HB.out | apply below_alloc | apply pw_below_drewN | apply below_drew1 | refine below_set ?_ GE365.out | refine below_set ?_ GE366.out) | exact HB.out)⟩

end Go.Proofs.YtlajkmnmooilmaaDoor.P
