/- The chapter's first example holds. -/
import Derived.Test.YtlajkmnmooilmaaDoorPureA
import Derived.Test.YtlajkmnmooilmaaDoorP3
namespace Go.Proofs.YtlajkmnmooilmaaDoor.Pure
open Go.RowKit Go.Proofs.YtlajkmnmooilmaaDoor.P Go.Proofs.YtlajkmnmooilmaaDoorW.PrintWords
theorem known2_t : Ev (fun k => keystonelaw2_known.f k) true := Ev.of keystonelaw2_known.mono (k := 20) (by decide +kernel)
end Go.Proofs.YtlajkmnmooilmaaDoor.Pure
