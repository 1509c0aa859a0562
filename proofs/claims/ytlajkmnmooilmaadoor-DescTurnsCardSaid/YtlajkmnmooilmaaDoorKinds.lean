/- The laws' arguments: what their struct values keep to, what they weigh, and that a reading lays them open. -/
import Derived.Test.YtlajkmnmooilmaaDoorOpen
import Derived.Test.YtlajkmnmooilmaaDoorP0
namespace Go.Proofs.YtlajkmnmooilmaaDoor.P
open Go.RowKit Go.Proofs.YtlajkmnmooilmaaDoorW.PrintWords Go.Proofs.YtlajkmnmooilmaaDoor.Open
set_option linter.unusedVariables false
def ok26 (x : S26) : Prop := ((Lit.int .i64 x.f0).wf = true) ∧ (x.f1.size ≤ 140737488351232)
def m26 (x : S26) : Nat := (1) + (x.f1.size + 1)
theorem o26 : Opens Tryd.prog 26 k26 ok26 m26 :=
  opens_struct (fun x : S26 => (x.f0, x.f1)) (fun p => ⟨p.1, p.2⟩) (fun _ => rfl) Tryd.underlying26 (by kernel_rfl) (opensF_cons (opens_int Tryd.underlying3 (by kernel_rfl)) rfl (opensF_one (opens_string Tryd.underlying9 (by kernel_rfl)) rfl))
def ok32 (x : S32) : Prop := ((∀ x_ ∈ x.f0, ok26 x_) ∧ x.f0.length ≤ maxLen ∧ x.f0.length * 24 ≤ 140737488351232) ∧ (True) ∧ (ok26 x.f2)
def m32 (x : S32) : Nat := (sumOf (fun x_ => m26 x_) x.f0 + 1) + ((1) + (m26 x.f2))
theorem o32 : Opens Tryd.prog 32 k32 ok32 m32 :=
  opens_struct (fun x : S32 => (x.f0, x.f1, x.f2)) (fun p => ⟨p.1, p.2.1, p.2.2⟩) (fun _ => rfl) Tryd.underlying32 (by kernel_rfl) (opensF_cons (opens_slice (b := 24) Tryd.underlying30 (by kernel_rfl) (by kernel_rfl) o26) rfl (opensF_cons (opens_bool Tryd.underlying4 (by kernel_rfl)) rfl (opensF_one o26 rfl)))
end Go.Proofs.YtlajkmnmooilmaaDoor.P
