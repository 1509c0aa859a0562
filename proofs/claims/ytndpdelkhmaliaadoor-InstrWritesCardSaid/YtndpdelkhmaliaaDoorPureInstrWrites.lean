/- InstrWrites, plainly. -/
import Derived.Test.YtndpdelkhmaliaaDoorPure4
import Derived.Test.YtndpdelkhmaliaaDoorPureKnown4
import Derived.Test.YtndpdelkhmaliaaDoorKinds
namespace Go.Proofs.YtndpdelkhmaliaaDoor.Pure
open Go.RowKit Go.Proofs.YtndpdelkhmaliaaDoor.P Go.Proofs.YtndpdelkhmaliaaDoorW.PrintWords
theorem InstrWrites (a0 : List S38) (_ : (∀ x_ ∈ a0, ok38 x_) ∧ a0.length ≤ maxLen ∧ a0.length * 32 ≤ 140737488351232) : ∃ k, keystonelaw4_InstrWrites.f k a0 = some true := by
  refine Ev.rounds ?_
  unfold keystonelaw4_InstrWrites.f
  refine Ev.bind known_t (Ev_pos rfl (Ev_ite (fun _ => Ev.now _) (fun h => Ev_some (Ev_pos (by simp; omega) (Ev_some ?_)))))
  rw [List.nil_append]
  refine Ev.bind (encode_f a0 (by omega)) (Ev.bind (rencode_f a0 (by omega)) (Ev.bind (same_self a0 (by omega)) (Ev_pos rfl (Ev_pos rfl ?_))))
  exact Ev_const (by simp)
end Go.Proofs.YtndpdelkhmaliaaDoor.Pure
