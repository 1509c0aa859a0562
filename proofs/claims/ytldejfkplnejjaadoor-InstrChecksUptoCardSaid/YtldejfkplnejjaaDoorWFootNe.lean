-- Cut by my program reach.py out of the text that print.sh lays: what the seat's texts use.
import Derived.Test.YtldejfkplnejjaaDoorWN
namespace Go.Proofs.YtldejfkplnejjaaDoorW.PrintWords
open Go.RowKit
namespace Kd
section
variable {α : Type} {d : Kd α} {W : World} {g n : Nat} {S ok : Nat → Prop} {A : Option Addr} {ad : Addr} {xs : List α}
end
end Kd
end Go.Proofs.YtldejfkplnejjaaDoorW.PrintWords
