-- Cut by my program reach.py out of the text that print.sh lays: what the seat's texts use.
import Derived.Test.YtldejfkplnejjaaDoorWTab
namespace Go.Proofs.YtldejfkplnejjaaDoorW.PrintLast
section
variable {P : Program} {ops : Array Oper} {Q : Exit → Act → World → Prop} {md : Region.Mode} {S : World → Prop} {ds : List Nat} {T : Bool × List (List Nat × List Nat)}
end
end Go.Proofs.YtldejfkplnejjaaDoorW.PrintLast
