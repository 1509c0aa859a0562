/- The chapter's examples hold. -/
import Derived.Test.YtldejfkplnejjaaDoorPureA
import Derived.Test.YtldejfkplnejjaaDoorP13
namespace Go.Proofs.YtldejfkplnejjaaDoor.Pure
open Go.RowKit Go.Proofs.YtldejfkplnejjaaDoor.P Go.Proofs.YtldejfkplnejjaaDoorW.PrintWords
theorem known_t : Ev (fun k => keystonelaw4_known.f k) true := Ev.of keystonelaw4_known.mono (k := 12) (by decide +kernel)
end Go.Proofs.YtldejfkplnejjaaDoor.Pure
