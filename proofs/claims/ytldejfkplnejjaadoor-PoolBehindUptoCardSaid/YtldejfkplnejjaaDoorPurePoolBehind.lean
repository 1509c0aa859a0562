/- PoolBehind, plainly. -/
import Derived.Test.YtldejfkplnejjaaDoorPure3x
import Derived.Test.YtldejfkplnejjaaDoorExtKnown
import Derived.Test.YtldejfkplnejjaaDoorP12
namespace Go.Proofs.YtldejfkplnejjaaDoor.Pure
open Go.RowKit Go.Proofs.YtldejfkplnejjaaDoor.P Go.Proofs.YtldejfkplnejjaaDoorW.PrintWords Go.Proofs.YtldejfkplnejjaaDoor.Open
set_option linter.unusedVariables false
theorem behind_l (l m : List En) (hs : Small l) (ht : Small (l ++ m)) (hl : AllR l) (hn : l.length ≤ 300) (hm : (l ++ m).length ≤ 1000) : ∀ (c j : Nat), j + c = l.length → Ev (fun k => keystonelaw3_PoolBehind.l0 k l (l ++ m) (j : Int)) true
  | 0, j, hj => by
    refine Ev.step (fun k => by rw [keystonelaw3_PoolBehind.l0]) ?_
    refine Ev_neg (by omega) (Ev.bind (pcheck_f (l ++ m) ht) ?_)
    have e : pcheckS (l ++ m) = badE (l ++ m) l.length m := by
      unfold pcheckS
      rw [if_neg (by omega), badE_app (l ++ m) l m 0 (fun x hx => wrong_app m (hl x hx)), Int.zero_add]
    rw [e]
    by_cases h : (badE (l ++ m) l.length m).2 = 0
    · exact Ev_pos h (Ev_pos (badE_1 _ _ _ h) (Ev.now _))
    · refine Ev_neg h (Ev_const ?_)
      have := (badE_ok (l ++ m) m l.length (by omega)).resolve_left h
      rw [decide_eq_true (by omega)]
  | c + 1, j, hj => by
    have ih := behind_l l m hs ht hl hn hm c (j + 1) (by omega)
    have hw : wrap64 ((j : Int) + 1) = ((j + 1 : Nat) : Int) := by rw [w64] <;> omega
    have h0 : (0 : Int) ≤ (j : Int) := by omega
    have h1 : (j : Int) < l.length := by omega
    refine Ev.step (fun k => by rw [keystonelaw3_PoolBehind.l0]) (Ev_pos (by omega) ?_)
    have a1 := text_f (l ++ m) ht j
    have a2 := class_f (l ++ m) ht j
    have a3 := field_f (l ++ m) ht j
    have a4 := method_f (l ++ m) ht j
    rw [text_app hl m h0 h1] at a1
    rw [class_app hl m h0 h1] at a2
    rw [field_app hl m h0 h1] at a3
    rw [method_app hl m h0 h1] at a4
    refine Ev.bind (text_f l hs j) (Ev.bind a1 (Ev.bind (class_f l hs j) (Ev.bind a2 (Ev_pos rfl (Ev_pos rfl (Ev_pos rfl ?_))))))
    refine Ev.step (fun k => by rw [keystonelaw3_PoolBehind.j2]) (Ev_neg (by simp) ?_)
    refine Ev.bind (field_f l hs j) (Ev.bind a3 (Ev_pos rfl (Ev_pos rfl (Ev_neg (by simp) ?_))))
    refine Ev.step (fun k => by rw [keystonelaw3_PoolBehind.j3, hw]) (Ev_neg (by simp) ?_)
    have hq := method_len l j
    exact Ev.bind (method_f l hs j) (Ev.bind a4 (Ev_pos rfl (Ev_pos rfl (Ev.bind (rsame_t ((methodV l j).2.2.1, (methodV l j).2.2.2.1, (methodV l j).2.2.2.2.1, (methodV l j).2.2.2.2.2.1) (by simp only; omega)) (Ev_pos rfl (Ev_pos rfl ih))))))
theorem PoolBehind (a0 : List En) (a1 : List En) (h0 : (∀ x_ ∈ a0, ok50 x_) ∧ a0.length ≤ maxLen ∧ a0.length * 56 ≤ 140737488351232) (h1 : (∀ x_ ∈ a1, ok50 x_) ∧ a1.length ≤ maxLen ∧ a1.length * 56 ≤ 140737488351232) (B : (sumOf m50 a0 + 1) + (sumOf m50 a1 + 1) ≤ 1048576) : ∃ k, keystonelaw3_PoolBehind.f k a0 a1 = some true := by
  refine Ev.rounds ?_
  have sm : ∀ a : List En, sumOf m50 a ≤ 1048576 → Small a := fun a hB x hx => by
    have h := sumOf_mem (m := m50) hx
    unfold m50 at h hB
    omega
  have hs := sm a0 (by omega)
  have hs1 := sm a1 (by omega)
  have ht : Small (a0 ++ a1) := fun x hx => by
    rcases List.mem_append.1 hx with h | h
    · exact hs x h
    · exact hs1 x h
  unfold keystonelaw3_PoolBehind.f
  refine Ev_bindc rfl (Ev_pos rfl ?_)
  have stop : Ev (fun k => keystonelaw3_PoolBehind.j0 k a0 a1 true) true := by
    refine Ev.step (fun k => by rw [keystonelaw3_PoolBehind.j0]) ?_
    exact Ev_pos rfl (Ev.now _)
  by_cases hm : (a0.length : Int) > 300
  · exact Ev_pos hm stop
  refine Ev_neg hm ?_
  by_cases hn : (a1.length : Int) > 300
  · rw [decide_eq_true hn]; exact stop
  rw [decide_eq_false hn]
  refine Ev.step (fun k => by rw [keystonelaw3_PoolBehind.j0]) (Ev_neg Bool.false_ne_true ?_)
  refine Ev.bind (pcheck_f a0 hs) ?_
  by_cases he : (pcheckS a0).2 = 0
  · refine Ev_pos he (Ev_some (Ev_pos (by simp only [List.length_nil]; omega) (Ev_some ?_)))
    rw [List.nil_append]
    refine Ev_pos (by omega) ?_
    exact behind_l a0 a1 hs ht (pcheck_ok he).1 (by omega) (by rw [List.length_append]; omega) a0.length 0 (Nat.zero_add _)
  · exact Ev_neg he (Ev.now _)
end Go.Proofs.YtldejfkplnejjaaDoor.Pure
