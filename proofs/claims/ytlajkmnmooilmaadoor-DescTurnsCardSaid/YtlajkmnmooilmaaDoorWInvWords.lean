-- Cut by my program reach.py out of the text that print.sh lays: what the seat's texts use.
import Derived.Test.YtlajkmnmooilmaaDoorWInv
import Derived.Test.YtlajkmnmooilmaaDoorWFootNe
namespace Go.Proofs.YtlajkmnmooilmaaDoorW.PrintWords
open Go.RowKit
end Go.Proofs.YtlajkmnmooilmaaDoorW.PrintWords
namespace Go.Proofs.YtlajkmnmooilmaaDoorW.PrintLast
section
variable {ops : Array Oper} {a : Act} {o og : Oper} {g : Nat} {t : Tmp} {u : Bool}
end
end Go.Proofs.YtlajkmnmooilmaaDoorW.PrintLast
