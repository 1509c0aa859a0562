/- InstrReads, plainly. -/
import Derived.Test.YtndpdelkhmaliaaDoorPure4b
import Derived.Test.YtndpdelkhmaliaaDoorPureKnown4
namespace Go.Proofs.YtndpdelkhmaliaaDoor.Pure
open Go.RowKit Go.Proofs.YtndpdelkhmaliaaDoor.P Go.Proofs.YtndpdelkhmaliaaDoorW.PrintWords
theorem InstrReads (a0 : List Int) (a1 : Int) (h0 : (∀ x_ ∈ a0, (Lit.int .u8 x_).wf = true) ∧ a0.length ≤ maxLen ∧ a0.length * 1 ≤ 140737488351232) (_ : (Lit.int .i64 a1).wf = true) : ∃ k, keystonelaw4_InstrReads.f k a0 a1 = some true := by
  refine Ev.rounds ?_
  have hb := bytes_of h0.1
  unfold keystonelaw4_InstrReads.f
  refine Ev.bind known_t (Ev_pos rfl (Ev_ite (fun _ => Ev.now _) (fun h => Ev_some (Ev_pos (by simp; omega) (Ev_some ?_)))))
  rw [List.nil_append]
  refine Ev.bind (decode_f a0 hb (by omega) a1) (Ev.bind (all_f a0 hb (by omega)) (Ev.bind (rdecode_f a0 hb (by omega) a1) (Ev.bind (rall_f a0 hb (by omega)) (Ev_pos rfl (Ev_pos (by simp) (Ev_pos rfl ?_))))))
  refine Ev.bind (same_self _ ?_) (Ev_pos rfl (Ev_pos rfl (Ev_const (by simp))))
  cases hp : parse a0.length 0 a0 with
  | error e => simp [allOf]
  | ok l => have := parse_len _ _ _ _ hp; simp only [allOf, List.nil_append]; omega
end Go.Proofs.YtndpdelkhmaliaaDoor.Pure
