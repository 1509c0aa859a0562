/- DescTypes, plainly. -/
import Derived.Test.YtlajkmnmooilmaaDoorPure2c
import Derived.Test.YtlajkmnmooilmaaDoorPure2d
import Derived.Test.YtlajkmnmooilmaaDoorPureKnown2
import Derived.Test.YtlajkmnmooilmaaDoorP9
namespace Go.Proofs.YtlajkmnmooilmaaDoor.Pure
open Go.RowKit Go.Proofs.YtlajkmnmooilmaaDoor.P Go.Proofs.YtlajkmnmooilmaaDoorW.PrintWords
theorem DescTypes (a0 : ByteArray) (a1 : S26) (h0 : a0.size ≤ 140737488351232) (h1 : ok26 a1) : ∃ k, keystonelaw2_DescTypes.f k a0 a1.f0 a1.f1 = some true := by
  refine Ev.rounds ?_
  have hs : a0.size ≤ 140737488355328 := by omega
  have ht : a1.f1.size ≤ 140737488355328 := by have := h1.2; omega
  unfold keystonelaw2_DescTypes.f
  refine Ev.bind (type_f _ hs) (Ev.bind (rtype_f _ hs) (Ev.bind (dtext_f _ _ ht) (Ev.bind (rtext_f _ _ ht) (Ev.bind known2_t (Ev_pos rfl (Ev_pos (by simp) (Ev_pos rfl (Ev_pos rfl (Ev_const (by simp))))))))))
end Go.Proofs.YtlajkmnmooilmaaDoor.Pure
