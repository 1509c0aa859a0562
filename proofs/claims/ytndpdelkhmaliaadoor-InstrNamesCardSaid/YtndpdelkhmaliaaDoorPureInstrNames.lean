/- InstrNames, plainly. -/
import Derived.Test.YtndpdelkhmaliaaDoorPure4c
import Derived.Test.YtndpdelkhmaliaaDoorPureKnown4
import Derived.Test.YtndpdelkhmaliaaDoorKinds
import Derived.Test.YtndpdelkhmaliaaDoorP6
namespace Go.Proofs.YtndpdelkhmaliaaDoor.Pure
open Go.RowKit Go.Proofs.YtndpdelkhmaliaaDoor.P Go.Proofs.YtndpdelkhmaliaaDoorW.PrintWords
theorem InstrNames (a0 : Int) (a1 : ByteArray) (a2 : S38) (_ : (Lit.int .i64 a0).wf = true) (_ : a1.size ≤ 140737488351232) (_ : ok38 a2) : ∃ k, keystonelaw4_InstrNames.f k a0 a1 a2.f0 a2.f1 a2.f2 a2.f3 = some true := by
  refine Ev.rounds ?_
  unfold keystonelaw4_InstrNames.f
  refine Ev.bind known_t (Ev_pos rfl ?_)
  have fin : ∀ b : Bool, Ev (fun k => keystonelaw4_InstrNames.j0 k a0 a1 b a2.f0 a2.f1 a2.f2 a2.f3) true := fun b => by
    refine Ev.step (fun k => by rw [keystonelaw4_InstrNames.j0]) (Ev_ite (fun _ => Ev.now _) (fun _ => ?_))
    refine Ev.bind (op_f a1) (Ev.bind (rop_f a1) (Ev_bindc (name_f a0) (Ev_bindc (rname_f a0) (Ev_pos rfl (Ev.bind (size_f a0) (Ev.bind (rsize_f a0) (Ev_pos rfl (Ev_pos rfl (Ev_pos (by simp) ?_)))))))))
    exact Ev.bind (next_f _ _ _ _) (Ev.bind (rnext_f _ _ _ _) (Ev.bind (sameInts_self _ (by have := nextS_len a2.f0 a2.f1 a2.f2 a2.f3; omega)) (Ev.now _)))
  exact Ev_ite (fun _ => fin _) (fun _ => Ev_ite (fun _ => fin _) (fun _ => Ev_ite (fun _ => fin _) (fun _ => fin _)))
end Go.Proofs.YtndpdelkhmaliaaDoor.Pure
