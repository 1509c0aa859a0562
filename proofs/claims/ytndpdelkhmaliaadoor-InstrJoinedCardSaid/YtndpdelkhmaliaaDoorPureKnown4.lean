/- The chapter's examples hold. -/
import Derived.Test.YtndpdelkhmaliaaDoorPureA
import Derived.Test.YtndpdelkhmaliaaDoorP3
namespace Go.Proofs.YtndpdelkhmaliaaDoor.Pure
open Go.RowKit Go.Proofs.YtndpdelkhmaliaaDoor.P Go.Proofs.YtndpdelkhmaliaaDoorW.PrintWords
theorem known_t : Ev (fun k => keystonelaw4_known.f k) true := Ev.of keystonelaw4_known.mono (k := 12) (by decide +kernel)
end Go.Proofs.YtndpdelkhmaliaaDoor.Pure
