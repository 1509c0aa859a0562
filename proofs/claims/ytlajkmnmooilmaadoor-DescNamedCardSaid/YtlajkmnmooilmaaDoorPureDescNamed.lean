/- DescNamed, plainly. -/
import Derived.Test.YtlajkmnmooilmaaDoorPure2a
import Derived.Test.YtlajkmnmooilmaaDoorPureKnown2
import Derived.Test.YtlajkmnmooilmaaDoorP3
import Derived.Test.YtlajkmnmooilmaaDoorP4
namespace Go.Proofs.YtlajkmnmooilmaaDoor.Pure
open Go.RowKit Go.Proofs.YtlajkmnmooilmaaDoor.P Go.Proofs.YtlajkmnmooilmaaDoorW.PrintWords
set_option maxRecDepth 100000
theorem dmethod_f (s : ByteArray) (hs : s.size ≤ 140737488355328) : Ev (fun k => desc_Method.f k s) (mth s) := by
  unfold desc_Method.f mth
  by_cases h : isInit s
  · rw [if_pos h]; exact Ev_pos h (Ev.now _)
  · rw [if_neg h]; exact Ev_neg h (Ev.bind (dname_f s hs) (Ev.now _))
theorem letterS_z {c : Int} {j : Nat} (h : ¬ ((97 ≤ c ∧ c ≤ 122) ∨ (65 ≤ c ∧ c ≤ 90) ∨ c = 95)) (h' : 48 ≤ c ∧ c ≤ 57) : decide ((j : Int) > 0) = letterS c (decide (j = 0)) := by
  by_cases h0 : j = 0
  · rw [decide_eq_true h0, letterS_n h (.inl rfl)]; simp [h0]
  · rw [decide_eq_false h0, letterS_d h']; simp; omega
theorem named_end (s : ByteArray) (hs : s.size ≤ 140737488355328) (j : Nat) (hj : j = s.size) : Ev (fun k => keystonelaw2_DescNamed.l0 k s (nm s) (j : Int)) true := by
  refine Ev.step (fun k => by rw [keystonelaw2_DescNamed.l0]) (Ev_neg (by omega) ?_)
  refine Ev.bind (dname_f s hs) (Ev_pos (by simp) (Ev.bind (dmethod_f s hs) ?_))
  by_cases h : nm s = true
  · refine Ev_pos h (Ev_pos ?_ (Ev.bind (dcheck_f 0 s hs) (Ev_const ?_)))
    · unfold mth; rw [h]; simp
    · unfold chk; rw [h]; simp
  · rw [Bool.not_eq_true] at h
    rw [h]
    refine Ev_neg Bool.false_ne_true (Ev_pos ?_ (Ev.bind (dcheck_f 0 s hs) (Ev_const ?_)))
    · unfold mth; rw [h]
      by_cases hi : isInit s
      · rw [if_pos hi, show (s.toList == ([60, 105, 110, 105, 116, 62] : List UInt8)) = true from beq_iff_eq.2 hi]; rfl
      · rw [if_neg hi, show (s.toList == ([60, 105, 110, 105, 116, 62] : List UInt8)) = false from beq_eq_false_iff_ne.2 hi]; rfl
    · unfold chk; rw [h]
      by_cases he : s.toList = ([] : List UInt8)
      · simp [he]
      · simp [he]
theorem named_l (s : ByteArray) (hs : s.size ≤ 140737488355328) : ∀ (d j : Nat) (b : Bool), j + d = s.size → (b && allL (decide (j = 0)) ((LL s).drop j)) = nm s →
    Ev (fun k => keystonelaw2_DescNamed.l0 k s b (j : Int)) true
  | 0, j, b, hj, hb => by
    rw [List.drop_of_length_le (by rw [LL_length]; omega), allL, Bool.and_true] at hb
    subst hb
    exact named_end s hs j (by omega)
  | d + 1, j, b, hj, hb => by
    obtain ⟨c, hc⟩ := at_of (l := LL s) (j := j) (by rw [LL_length]; omega)
    rw [drop_at hc, allL] at hb
    have hx := bt_of hc
    have hr : 0 ≤ (c.toNat : Int) := by omega
    have ih : ∀ B, B = (b && letterS (c.toNat : Int) (decide (j = 0))) → Ev (fun k => keystonelaw2_DescNamed.l0 k s B ((j + 1 : Nat) : Int)) true := fun B hB => by
      refine named_l s hs d (j + 1) B (by omega) ?_
      rw [hB, show decide (j + 1 = 0) = false by simp, Bool.and_assoc, hb]
    generalize (c.toNat : Int) = x at hx ih hb hr
    refine Ev.step (fun k => by rw [keystonelaw2_DescNamed.l0, hx, show wrap64 ((j : Int) + 1) = ((j + 1 : Nat) : Int) by rw [w64] <;> omega]) (Ev_pos (by omega) (Ev_pos (by omega) ?_))
    cases b with
    | false =>
      have ih' := ih false (by rw [Bool.false_and])
      repeat' first | exact ih' | (refine Ev_pos rfl ?_) | (refine Ev_neg Bool.false_ne_true ?_) | (refine Ev_ite (fun _ => ?_) (fun _ => ?_))
    | true =>
      simp only [Bool.true_and] at ih
      repeat' first | (refine Ev_pos rfl ?_) | (refine Ev_ite (fun _ => ?_) (fun _ => ?_))
      all_goals first
        | (exfalso; omega)
        | exact ih _ (letterS_t (by omega)).symm
        | exact ih _ (letterS_n (by omega) (.inr (by omega))).symm
        | exact ih _ (letterS_z (by omega) (by omega))
theorem DescNamed (a0 : ByteArray) (h0 : a0.size ≤ 140737488351232) : ∃ k, keystonelaw2_DescNamed.f k a0 = some true := by
  refine Ev.rounds ?_
  unfold keystonelaw2_DescNamed.f
  have key : ∀ b, (b && allL true (LL a0)) = nm a0 → Ev (fun k => keystonelaw2_DescNamed.j0 k a0 b) true := fun b hb =>
    Ev.step (fun k => by rw [keystonelaw2_DescNamed.j0]; rfl) (named_l a0 (by omega) a0.size 0 b (Nat.zero_add _) (by rwa [show decide (0 = 0) = true from rfl, List.drop_zero]))
  refine Ev.bind known2_t (Ev_pos rfl (Ev_ite (fun h => key _ ?_) (fun h => key _ ?_)))
  · have hne : LL a0 ≠ [] := fun e => by have := LL_length a0; rw [e] at this; simp at this; omega
    unfold nm nmL
    rw [decide_eq_true hne, Bool.true_and, Bool.and_comm, LL_length]
    congr 1
    simp; omega
  · have e : LL a0 = [] := List.length_eq_zero_iff.1 (by rw [LL_length]; omega)
    unfold nm nmL
    rw [e]; rfl
end Go.Proofs.YtlajkmnmooilmaaDoor.Pure
