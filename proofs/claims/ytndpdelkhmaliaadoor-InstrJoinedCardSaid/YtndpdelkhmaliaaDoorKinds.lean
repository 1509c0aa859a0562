/- The laws' arguments: what their struct values keep to, what they weigh, and that a reading lays them open. -/
import Derived.Test.YtndpdelkhmaliaaDoorOpen
import Derived.Test.YtndpdelkhmaliaaDoorP0
namespace Go.Proofs.YtndpdelkhmaliaaDoor.P
open Go.RowKit Go.Proofs.YtndpdelkhmaliaaDoorW.PrintWords Go.Proofs.YtndpdelkhmaliaaDoor.Open
set_option linter.unusedVariables false
def ok38 (x : S38) : Prop := ((Lit.int .i64 x.f0).wf = true) ∧ ((Lit.int .i64 x.f1).wf = true) ∧ ((Lit.int .i64 x.f2).wf = true) ∧ ((Lit.int .i64 x.f3).wf = true)
def m38 (x : S38) : Nat := (1) + ((1) + ((1) + (1)))
theorem o38 : Opens Tryd.prog 38 k38 ok38 m38 :=
  opens_struct (fun x : S38 => (x.f0, x.f1, x.f2, x.f3)) (fun p => ⟨p.1, p.2.1, p.2.2.1, p.2.2.2⟩) (fun _ => rfl) Tryd.underlying38 (by kernel_rfl) (opensF_cons (opens_int Tryd.underlying3 (by kernel_rfl)) rfl (opensF_cons (opens_int Tryd.underlying3 (by kernel_rfl)) rfl (opensF_cons (opens_int Tryd.underlying3 (by kernel_rfl)) rfl (opensF_one (opens_int Tryd.underlying3 (by kernel_rfl)) rfl))))
end Go.Proofs.YtndpdelkhmaliaaDoor.P
