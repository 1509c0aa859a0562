/- The laws' arguments: what their struct values keep to, what they weigh, and that a reading lays them open. -/
import Derived.Test.YtldejfkplnejjaaDoorOpen
import Derived.Test.YtldejfkplnejjaaDoorP0
import Derived.Test.YtldejfkplnejjaaDoorExtK
namespace Go.Proofs.YtldejfkplnejjaaDoor.P
open Go.RowKit Go.Proofs.YtldejfkplnejjaaDoorW.PrintWords Go.Proofs.YtldejfkplnejjaaDoor.Open
set_option linter.unusedVariables false
def ok34 (x : S34) : Prop := ((Lit.int .i64 x.f0).wf = true) ∧ (x.f1.size ≤ 140737488351232)
def m34 (x : S34) : Nat := (1) + (x.f1.size + 1)
theorem o34 : Opens Tryd.prog 34 k34 ok34 m34 :=
  opens_struct (fun x : S34 => (x.f0, x.f1)) (fun p => ⟨p.1, p.2⟩) (fun _ => rfl) Tryd.underlying34 (by kernel_rfl) (opensF_cons (opens_int Tryd.underlying3 (by kernel_rfl)) rfl (opensF_one (opens_string Tryd.underlying9 (by kernel_rfl)) rfl))
def ok39 (x : S39) : Prop := ((∀ x_ ∈ x.f0, ok34 x_) ∧ x.f0.length ≤ maxLen ∧ x.f0.length * 24 ≤ 140737488351232) ∧ (True) ∧ (ok34 x.f2)
def m39 (x : S39) : Nat := (sumOf m34 x.f0 + 1) + ((1) + (m34 x.f2))
theorem o39 : Opens Tryd.prog 39 k39 ok39 m39 :=
  opens_struct (fun x : S39 => (x.f0, x.f1, x.f2)) (fun p => ⟨p.1, p.2.1, p.2.2⟩) (fun _ => rfl) Tryd.underlying39 (by kernel_rfl) (opensF_cons (opens_slice (b := 24) Tryd.underlying37 (by kernel_rfl) (by kernel_rfl) o34) rfl (opensF_cons (opens_bool Tryd.underlying4 (by kernel_rfl)) rfl (opensF_one o34 rfl)))
def ok57 (x : S57) : Prop := ((Lit.int .i64 x.f0).wf = true) ∧ ((Lit.int .i64 x.f1).wf = true) ∧ (x.f2.size ≤ 140737488351232) ∧ (x.f3.size ≤ 140737488351232) ∧ (ok34 x.f4) ∧ (ok39 x.f5)
def m57 (x : S57) : Nat := (1) + ((1) + ((x.f2.size + 1) + ((x.f3.size + 1) + ((m34 x.f4) + (m39 x.f5)))))
theorem o57 : Opens Tryd.prog 57 k57 ok57 m57 :=
  opens_struct (fun x : S57 => (x.f0, x.f1, x.f2, x.f3, x.f4, x.f5)) (fun p => ⟨p.1, p.2.1, p.2.2.1, p.2.2.2.1, p.2.2.2.2.1, p.2.2.2.2.2⟩) (fun _ => rfl) Tryd.underlying57 (by kernel_rfl) (opensF_cons (opens_int Tryd.underlying3 (by kernel_rfl)) rfl (opensF_cons (opens_int Tryd.underlying2 (by kernel_rfl)) rfl (opensF_cons (opens_string Tryd.underlying9 (by kernel_rfl)) rfl (opensF_cons (opens_string Tryd.underlying9 (by kernel_rfl)) rfl (opensF_cons o34 rfl (opensF_one o39 rfl))))))
end Go.Proofs.YtldejfkplnejjaaDoor.P
