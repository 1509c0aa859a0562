/- PoolChecks, plainly. -/
import Derived.Test.YtldejfkplnejjaaDoorPure3s
import Derived.Test.YtldejfkplnejjaaDoorExtKnown
import Derived.Test.YtldejfkplnejjaaDoorP9
namespace Go.Proofs.YtldejfkplnejjaaDoor.Pure
open Go.RowKit Go.Proofs.YtldejfkplnejjaaDoor.P Go.Proofs.YtldejfkplnejjaaDoorW.PrintWords Go.Proofs.YtldejfkplnejjaaDoor.Open
set_option linter.unusedVariables false
theorem PoolChecks (a0 : List En) (h0 : (∀ x_ ∈ a0, ok50 x_) ∧ a0.length ≤ maxLen ∧ a0.length * 56 ≤ 140737488351232) (B : (sumOf m50 a0 + 1) ≤ 1048576) : ∃ k, keystonelaw3_PoolChecks.f k a0 = some true := by
  refine Ev.rounds ?_
  have hs : Small a0 := fun x hx => by
    have h := sumOf_mem (m := m50) hx
    unfold m50 at h
    have hB := B
    unfold m50 at hB
    omega
  unfold keystonelaw3_PoolChecks.f
  refine Ev_bindc rfl (Ev_pos rfl ?_)
  by_cases hm : (a0.length : Int) > 4200
  · exact Ev_pos hm (Ev.now _)
  refine Ev_neg hm (Ev_some (Ev_pos (by simp only [List.length_nil]; omega) (Ev_some ?_)))
  rw [List.nil_append]
  refine Ev.bind (pcheck_f a0 hs) (Ev.bind (rcheck_f a0 hs) (Ev.bind (same_f a0 (by omega)) ?_))
  exact Ev_pos rfl (Ev_pos rfl (Ev_const (by simp)))
end Go.Proofs.YtldejfkplnejjaaDoor.Pure
