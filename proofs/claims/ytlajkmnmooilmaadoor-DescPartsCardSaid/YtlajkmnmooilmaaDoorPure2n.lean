/- Chapter 2, plainly: the classes that types name. -/
import Derived.Test.YtlajkmnmooilmaaDoorPure2m
import Derived.Test.YtlajkmnmooilmaaDoorExtClasses
namespace Go.Proofs.YtlajkmnmooilmaaDoor.Pure
open Go.RowKit Go.Proofs.YtlajkmnmooilmaaDoor.P Go.Proofs.YtlajkmnmooilmaaDoorW.PrintWords
set_option linter.unusedVariables false
theorem dcls_f (l : List Ty) (h : l.length ≤ 1000) (hz : ∀ t ∈ l, t.f1.size ≤ 140737488355328) : desc_Classes.f l = some (clsF l) := by
  unfold desc_Classes.f
  rw [if_pos ⟨by omega, fun t ht => by have := hz t ht; unfold maxLen; omega⟩]
theorem rdO {out : List ByteArray} {j : Nat} {x : ByteArray} (h : out[j]? = some x) : rdOf ByteArray.empty out (j : Int) = x := getD_at rfl h
def clsP (out : List ByteArray) : Prop := (∀ x ∈ out, nm x = true) ∧ out.Pairwise (fun a b => a.toList ≠ b.toList)
theorem cls_ok : ∀ (l : List Ty) (out : List ByteArray), clsP out → (∀ t ∈ l, t.f1.toList = [] ∨ nm t.f1 = true) → clsP (l.foldl clsStep out) ∧ (l.foldl clsStep out).length ≤ out.length + l.length
  | [], out, h, _ => ⟨h, Nat.le_refl _⟩
  | t :: l, out, h, hl => by
    have ht := hl t (List.mem_cons_self ..)
    have hl' : ∀ x ∈ l, x.f1.toList = [] ∨ nm x.f1 = true := fun x hx => hl x (List.mem_cons_of_mem _ hx)
    rw [List.foldl_cons]
    by_cases hc : clsHas out t.f1 = true ∨ t.f1.toList = []
    · rw [show clsStep out t = out by unfold clsStep; rw [if_pos hc]]
      have := cls_ok l out h hl'
      exact ⟨this.1, by simp only [List.length_cons]; omega⟩
    · rw [show clsStep out t = out ++ [t.f1] by unfold clsStep; rw [if_neg hc]]
      have hn : nm t.f1 = true := by rcases ht with ht | ht; · exact absurd (.inr ht) hc
                                     · exact ht
      have hh : ∀ x ∈ out, x.toList ≠ t.f1.toList := fun x hx e => hc (.inl (by unfold clsHas; rw [List.any_eq_true]; exact ⟨x, hx, by simp [e]⟩))
      have := cls_ok l (out ++ [t.f1]) ⟨fun x hx => by
        rcases List.mem_append.1 hx with hx | hx
        · exact h.1 x hx
        · rw [List.mem_singleton.1 hx]; exact hn, List.pairwise_append.2 ⟨h.2, List.pairwise_singleton _ _, fun a ha b hb => by rw [List.mem_singleton.1 hb]; exact hh a ha⟩⟩ hl'
      exact ⟨this.1, by have h2 := this.2; simp only [List.length_append, List.length_cons, List.length_nil] at h2 ⊢; omega⟩
theorem clsF_ok (l : List Ty) (hl : ∀ t ∈ l, t.f1.toList = [] ∨ nm t.f1 = true) : clsP (clsF l) ∧ (clsF l).length ≤ l.length := by
  have := cls_ok l [] ⟨fun x hx => by simp at hx, List.Pairwise.nil⟩ hl
  exact ⟨this.1, by simpa [clsF] using this.2⟩
theorem cls_len : ∀ (l : List Ty) (out : List ByteArray), (l.foldl clsStep out).length ≤ out.length + l.length
  | [], out => Nat.le_refl _
  | t :: l, out => by
    rw [List.foldl_cons]
    have := cls_len l (clsStep out t)
    have h : (clsStep out t).length ≤ out.length + 1 := by
      unfold clsStep
      split
      · omega
      · simp
    simp only [List.length_cons]
    omega
end Go.Proofs.YtlajkmnmooilmaaDoor.Pure
