/- Two rules more for the walk: a store goes inward past the draws that were made before it; a cell that was just stored twice. -/
import Derived.WalkKit
import Derived.Deep.Draws
import Derived.BigQuiet
namespace Go.Proofs.YtldejfkplnejjaaDoor
theorem setCell_drewN (w : World) (n : Nat) (a : Addr) (v : Value) : (w.drewN n).setCell a v = (w.setCell a v).drewN n := rfl
theorem cell_set2 (w : World) (a : Addr) (u v : Value) (h : (w.cell? a).isSome = true) : ((w.setCell a u).setCell a v).cell? a = some v :=
  World.cell?_setCell_same' _ _ _ (by rw [World.cell?_setCell_same' _ _ _ h]; rfl)
attribute [go_sem] setCell_drewN cell_set2
end Go.Proofs.YtldejfkplnejjaaDoor
