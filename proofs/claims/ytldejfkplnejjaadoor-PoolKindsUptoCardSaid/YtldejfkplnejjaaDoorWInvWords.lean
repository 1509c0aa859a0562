/- Cut to what is used (cutmerge.py). -/
import Derived.Test.YtldejfkplnejjaaDoorWInv
import Derived.Test.YtldejfkplnejjaaDoorWFootNe
namespace Go.Proofs.YtldejfkplnejjaaDoorW.PrintWords
open Go.RowKit
end Go.Proofs.YtldejfkplnejjaaDoorW.PrintWords
namespace Go.Proofs.YtldejfkplnejjaaDoorW.PrintLast
section
variable {ops : Array Oper} {a : Act} {o og : Oper} {g : Nat} {t : Tmp} {u : Bool}
end
end Go.Proofs.YtldejfkplnejjaaDoorW.PrintLast
