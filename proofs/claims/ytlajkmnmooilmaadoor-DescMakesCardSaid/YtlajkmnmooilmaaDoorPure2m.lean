/- Chapter 2, plainly: signatures made of types. The classes that types name. -/
import Derived.Test.YtlajkmnmooilmaaDoorPure2t
import Derived.Test.YtlajkmnmooilmaaDoorExtClasses
import Derived.Test.YtlajkmnmooilmaaDoorP22
namespace Go.Proofs.YtlajkmnmooilmaaDoor.Pure
open Go.RowKit Go.Proofs.YtlajkmnmooilmaaDoor.P Go.Proofs.YtlajkmnmooilmaaDoorW.PrintWords
set_option linter.unusedVariables false
def mkS (ps : List Ty) (v : Bool) (d : Int) (m : ByteArray) : SigV := if (sigT ps v d m).2 = 0 then (ps, v, d, m, 0) else ([], false, 0, ⟨#[]⟩, (sigT ps v d m).2)
def makeS (v : Bool) (l : List Ty) : SigV :=
  if v = true then mkS l true 0 ⟨#[]⟩ else match l.getLast? with
    | none => ([], false, 0, ⟨#[]⟩, 2)
    | some t => mkS l.dropLast false t.f0 t.f1
theorem clone_f (l : List Ty) (h : l.length < 5864062014805) : api_Type_51.f l = some l := by
  show (if ([] : List Ty).length + l.length < 5864062014805 then _ else none) = _
  rw [if_pos (by simpa using h)]
  rfl
theorem dmake_j (l : List Ty) (v : Bool) (d : Int) (m : ByteArray) (h : l.length < 5864062014805) (hm : m.size ≤ 140737488355328) (hz : ∀ t ∈ l, t.f1.size ≤ 140737488355328) : Ev (fun k => desc_Make.j0 k l v d m) (mkS l v d m) := by
  refine Ev.step (fun k => by rw [desc_Make.j0]) (Ev_bindc (clone_f l h) (Ev.bind (dsigt_f _ _ _ _ hm hz) ?_))
  unfold mkS
  by_cases he : (sigT l v d m).2 = 0
  · rw [if_pos he, if_pos he]; exact Ev.now _
  · rw [if_neg he, if_neg he]; exact Ev.now _
theorem dmake_f (v : Bool) (l : List Ty) (h : l.length < 5864062014805) (hz : ∀ t ∈ l, t.f1.size ≤ 140737488355328) : Ev (fun k => desc_Make.f k v l) (makeS v l) := by
  unfold desc_Make.f makeS
  cases v with
  | true => exact Ev_pos rfl (dmake_j l true 0 ⟨#[]⟩ h (by decide) hz)
  | false =>
    refine Ev_neg Bool.false_ne_true ?_
    rw [if_neg Bool.false_ne_true]
    by_cases h0 : l.length = 0
    · have e : l = [] := List.length_eq_zero_iff.1 h0
      subst e
      exact Ev_pos rfl (Ev.now _)
    · have hne : l ≠ [] := fun e => h0 (by rw [e]; rfl)
      have hw : wrap64 ((l.length : Int) - 1) = ((l.length - 1 : Nat) : Int) := by rw [w64] <;> omega
      obtain ⟨t, ht⟩ := at_of (l := l) (j := l.length - 1) (by omega)
      have hl : l.getLast? = some t := by rw [List.getLast?_eq_getElem?, ht]
      rw [hw, rdT l ht, hl]
      have hin : t ∈ l := List.mem_of_getElem? ht
      refine Ev_neg (by omega) (Ev_pos (by omega) (Ev_pos (by omega) (Ev_pos (by omega) ?_)))
      rw [Int.toNat_natCast, ← List.dropLast_eq_take]
      exact dmake_j _ _ _ _ (by rw [List.length_dropLast]; omega) (hz t hin) (fun x hx => hz x (List.dropLast_subset l hx))
theorem dcls_f (l : List Ty) (h : l.length ≤ 1000) (hz : ∀ t ∈ l, t.f1.size ≤ 140737488355328) : desc_Classes.f l = some (clsF l) := by
  unfold desc_Classes.f
  rw [if_pos ⟨by omega, fun t ht => by have := hz t ht; unfold maxLen; omega⟩]
theorem rdO {out : List ByteArray} {j : Nat} {x : ByteArray} (h : out[j]? = some x) : rdOf ByteArray.empty out (j : Int) = x := getD_at rfl h
def clsP (out : List ByteArray) : Prop := (∀ x ∈ out, nm x = true) ∧ out.Pairwise (fun a b => a.toList ≠ b.toList)
theorem cls_ok : ∀ (l : List Ty) (out : List ByteArray), clsP out → (∀ t ∈ l, t.f1.toList = [] ∨ nm t.f1 = true) → clsP (l.foldl clsStep out) ∧ (l.foldl clsStep out).length ≤ out.length + l.length
  | [], out, h, _ => ⟨h, Nat.le_refl _⟩
  | t :: l, out, h, hl => by
    have ht := hl t (List.mem_cons_self ..)
    have hl' : ∀ x ∈ l, x.f1.toList = [] ∨ nm x.f1 = true := fun x hx => hl x (List.mem_cons_of_mem _ hx)
    rw [List.foldl_cons]
    by_cases hc : clsHas out t.f1 = true ∨ t.f1.toList = []
    · rw [show clsStep out t = out by unfold clsStep; rw [if_pos hc]]
      have := cls_ok l out h hl'
      exact ⟨this.1, by simp only [List.length_cons]; omega⟩
    · rw [show clsStep out t = out ++ [t.f1] by unfold clsStep; rw [if_neg hc]]
      have hn : nm t.f1 = true := by rcases ht with ht | ht; · exact absurd (.inr ht) hc
                                     · exact ht
      have hh : ∀ x ∈ out, x.toList ≠ t.f1.toList := fun x hx e => hc (.inl (by unfold clsHas; rw [List.any_eq_true]; exact ⟨x, hx, by simp [e]⟩))
      have := cls_ok l (out ++ [t.f1]) ⟨fun x hx => by
        rcases List.mem_append.1 hx with hx | hx
        · exact h.1 x hx
        · rw [List.mem_singleton.1 hx]; exact hn, List.pairwise_append.2 ⟨h.2, List.pairwise_singleton _ _, fun a ha b hb => by rw [List.mem_singleton.1 hb]; exact hh a ha⟩⟩ hl'
      exact ⟨this.1, by have h2 := this.2; simp only [List.length_append, List.length_cons, List.length_nil] at h2 ⊢; omega⟩
theorem clsF_ok (l : List Ty) (hl : ∀ t ∈ l, t.f1.toList = [] ∨ nm t.f1 = true) : clsP (clsF l) ∧ (clsF l).length ≤ l.length := by
  have := cls_ok l [] ⟨fun x hx => by simp at hx, List.Pairwise.nil⟩ hl
  exact ⟨this.1, by simpa [clsF] using this.2⟩
theorem cls_len : ∀ (l : List Ty) (out : List ByteArray), (l.foldl clsStep out).length ≤ out.length + l.length
  | [], out => Nat.le_refl _
  | t :: l, out => by
    rw [List.foldl_cons]
    have := cls_len l (clsStep out t)
    have h : (clsStep out t).length ≤ out.length + 1 := by
      unfold clsStep
      split
      · omega
      · simp
    simp only [List.length_cons]
    omega
end Go.Proofs.YtlajkmnmooilmaaDoor.Pure
