/- Chapter 2, plainly: signatures made of types. -/
import Derived.Test.YtlajkmnmooilmaaDoorPure2u
import Derived.Test.YtlajkmnmooilmaaDoorP22
namespace Go.Proofs.YtlajkmnmooilmaaDoor.Pure
open Go.RowKit Go.Proofs.YtlajkmnmooilmaaDoor.P Go.Proofs.YtlajkmnmooilmaaDoorW.PrintWords
set_option linter.unusedVariables false
def mkS (ps : List Ty) (v : Bool) (d : Int) (m : ByteArray) : SigV := if (sigT ps v d m).2 = 0 then (ps, v, d, m, 0) else ([], false, 0, ⟨#[]⟩, (sigT ps v d m).2)
def makeS (v : Bool) (l : List Ty) : SigV :=
  if v = true then mkS l true 0 ⟨#[]⟩ else match l.getLast? with
    | none => ([], false, 0, ⟨#[]⟩, 2)
    | some t => mkS l.dropLast false t.f0 t.f1
theorem clone_f (l : List Ty) (h : l.length < 5864062014805) : api_Type_51.f l = some l := by
  show (if ([] : List Ty).length + l.length < 5864062014805 then _ else none) = _
  rw [if_pos (by simpa using h)]
  rfl
theorem dmake_j (l : List Ty) (v : Bool) (d : Int) (m : ByteArray) (h : l.length < 5864062014805) (hm : m.size ≤ 140737488355328) (hz : ∀ t ∈ l, t.f1.size ≤ 140737488355328) : Ev (fun k => desc_Make.j0 k l v d m) (mkS l v d m) := by
  refine Ev.step (fun k => by rw [desc_Make.j0]) (Ev_bindc (clone_f l h) (Ev.bind (dsigt_f _ _ _ _ hm hz) ?_))
  unfold mkS
  by_cases he : (sigT l v d m).2 = 0
  · rw [if_pos he, if_pos he]; exact Ev.now _
  · rw [if_neg he, if_neg he]; exact Ev.now _
theorem dmake_f (v : Bool) (l : List Ty) (h : l.length < 5864062014805) (hz : ∀ t ∈ l, t.f1.size ≤ 140737488355328) : Ev (fun k => desc_Make.f k v l) (makeS v l) := by
  unfold desc_Make.f makeS
  cases v with
  | true => exact Ev_pos rfl (dmake_j l true 0 ⟨#[]⟩ h (by decide) hz)
  | false =>
    refine Ev_neg Bool.false_ne_true ?_
    rw [if_neg Bool.false_ne_true]
    by_cases h0 : l.length = 0
    · have e : l = [] := List.length_eq_zero_iff.1 h0
      subst e
      exact Ev_pos rfl (Ev.now _)
    · have hne : l ≠ [] := fun e => h0 (by rw [e]; rfl)
      have hw : wrap64 ((l.length : Int) - 1) = ((l.length - 1 : Nat) : Int) := by rw [w64] <;> omega
      obtain ⟨t, ht⟩ := at_of (l := l) (j := l.length - 1) (by omega)
      have hl : l.getLast? = some t := by rw [List.getLast?_eq_getElem?, ht]
      rw [hw, rdT l ht, hl]
      have hin : t ∈ l := List.mem_of_getElem? ht
      refine Ev_neg (by omega) (Ev_pos (by omega) (Ev_pos (by omega) (Ev_pos (by omega) ?_)))
      rw [Int.toNat_natCast, ← List.dropLast_eq_take]
      exact dmake_j _ _ _ _ (by rw [List.length_dropLast]; omega) (hz t hin) (fun x hx => hz x (List.dropLast_subset l hx))
end Go.Proofs.YtlajkmnmooilmaaDoor.Pure
