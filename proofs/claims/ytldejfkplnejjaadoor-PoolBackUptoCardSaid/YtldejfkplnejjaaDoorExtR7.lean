/- The reference's builder: its list behind a pointer; an elder list that was kept is still what it was. The reference's builder: what each call tells, and what it has behind it. The reference's builder: classes, types, fields. The reference's builder: types. The reference's builder: fields, methods. The reference's builder: methods. The reference's builder: a new one. -/
import Derived.Test.YtldejfkplnejjaaDoorExtB3
import Derived.Test.YtldejfkplnejjaaDoorP2
import Derived.ArgAppend
import Derived.Test.YtldejfkplnejjaaDoorExtN
import Derived.Test.YtldejfkplnejjaaDoorP6
import Derived.Test.YtldejfkplnejjaaDoorP7
namespace Go.Proofs.YtldejfkplnejjaaDoor.P
open Go.RowKit Go.Proofs.YtldejfkplnejjaaDoorW.PrintWords Go.Proofs.YtldejfkplnejjaaDoorW.PrintLast Go.Proofs.YtldejfkplnejjaaDoorW.PrintMore
open Go.Maps Go.WideMaps Go.MapKept
set_option linter.unusedVariables false
set_option linter.unusedSimpArgs false
theorem fstI_first {x : S50} {L : List S50} {i : Nat} (h : L[i]? = some x) (hno : ∀ j y, j < i → L[j]? = some y → y ≠ x) : fstI x L = some i := by
  unfold fstI
  rw [List.findIdx?_eq_some_iff_getElem]
  obtain ⟨hlt, he⟩ := List.getElem?_eq_some_iff.1 h
  refine ⟨hlt, by rw [he]; exact eqE_iff.2 rfl, fun j hj => ?_⟩
  have := hno j L[j] hj (List.getElem?_eq_getElem (by omega))
  intro h'
  exact this (eqE_iff.1 h')
attribute [local go_sem high] eqA50
end Go.Proofs.YtldejfkplnejjaaDoor.P
namespace Go.Proofs.YtldejfkplnejjaaDoor.P
open Go.Maps Go.WideMaps Go.MapKept
open Go.RowKit Go.Proofs.YtldejfkplnejjaaDoorW.PrintWords Go.Proofs.YtldejfkplnejjaaDoorW.PrintLast Go.Proofs.YtldejfkplnejjaaDoorW.PrintMore
set_option linter.unusedVariables false
set_option linter.unusedSimpArgs false
theorem pre_put {L0 L : List S50} (h : L0 <+: L) (x : S50) : L0 <+: putL x L := by
  unfold putL
  split
  · exact h
  · exact h.trans (List.prefix_append _ _)
end Go.Proofs.YtldejfkplnejjaaDoor.P
namespace Go.Proofs.YtldejfkplnejjaaDoor.P
open Go.Maps Go.WideMaps Go.MapKept
open Go.RowKit Go.Proofs.YtldejfkplnejjaaDoorW.PrintWords Go.Proofs.YtldejfkplnejjaaDoorW.PrintLast Go.Proofs.YtldejfkplnejjaaDoorW.PrintMore
set_option linter.unusedVariables false
set_option linter.unusedSimpArgs false
theorem keystoneref2_Name.below (k : Nat) (a0 : ByteArray) (r : Bool) (w : World) (h : keystoneref2_Name.f k a0 = some r) : Calls Tryd.prog 91 #[.string a0] w fun e w' => e = .returned (.bool r) ∧ Below w.heap.size w w' := by
  refine (keystoneref2_Name.calls k a0 r w h).mono ?_
  rintro e w' ⟨he, hd⟩
  exact ⟨he, hd.below⟩
end Go.Proofs.YtldejfkplnejjaaDoor.P
namespace Go.Proofs.YtldejfkplnejjaaDoor.P
open Go.Maps Go.WideMaps Go.MapKept
open Go.RowKit Go.Proofs.YtldejfkplnejjaaDoorW.PrintWords Go.Proofs.YtldejfkplnejjaaDoorW.PrintLast Go.Proofs.YtldejfkplnejjaaDoorW.PrintMore
set_option linter.unusedVariables false
set_option linter.unusedSimpArgs false
end Go.Proofs.YtldejfkplnejjaaDoor.P
namespace Go.Proofs.YtldejfkplnejjaaDoor.P
open Go.Maps Go.WideMaps Go.MapKept
open Go.RowKit Go.Proofs.YtldejfkplnejjaaDoorW.PrintWords Go.Proofs.YtldejfkplnejjaaDoorW.PrintLast Go.Proofs.YtldejfkplnejjaaDoorW.PrintMore
set_option linter.unusedVariables false
set_option linter.unusedSimpArgs false
section
variable {w0 w : World} {F0 F : Nat → Prop} {g : Nat} {L L0 : List S50} {A A0 : Option Addr} {c c0 gx : Nat} {v0 v1 v2 v3 v4 v5 : Value}
end
end Go.Proofs.YtldejfkplnejjaaDoor.P
namespace Go.Proofs.YtldejfkplnejjaaDoor.P
open Go.Maps Go.WideMaps Go.MapKept
open Go.RowKit Go.Proofs.YtldejfkplnejjaaDoorW.PrintWords Go.Proofs.YtldejfkplnejjaaDoorW.PrintLast Go.Proofs.YtldejfkplnejjaaDoorW.PrintMore
set_option linter.unusedVariables false
set_option linter.unusedSimpArgs false
end Go.Proofs.YtldejfkplnejjaaDoor.P
namespace Go.Proofs.YtldejfkplnejjaaDoor.P
open Go.Maps Go.WideMaps Go.MapKept
open Go.RowKit Go.Proofs.YtldejfkplnejjaaDoorW.PrintWords Go.Proofs.YtldejfkplnejjaaDoorW.PrintLast Go.Proofs.YtldejfkplnejjaaDoorW.PrintMore
set_option linter.unusedVariables false
set_option linter.unusedSimpArgs false
end Go.Proofs.YtldejfkplnejjaaDoor.P
