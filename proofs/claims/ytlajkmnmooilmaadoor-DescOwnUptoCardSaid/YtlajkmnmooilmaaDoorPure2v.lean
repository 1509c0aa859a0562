/- Chapter 2, plainly: a signature's copy, few parameters; making signatures. -/
import Derived.Test.YtlajkmnmooilmaaDoorPure2u
import Derived.Test.YtlajkmnmooilmaaDoorP13
import Derived.Test.YtlajkmnmooilmaaDoorP17
namespace Go.Proofs.YtlajkmnmooilmaaDoor.Pure
open Go.RowKit Go.Proofs.YtlajkmnmooilmaaDoor.P Go.Proofs.YtlajkmnmooilmaaDoorW.PrintWords
set_option linter.unusedVariables false
theorem twin_f (ps : List Ty) (v : Bool) (d : Int) (m : ByteArray) (h : ps.length < 5864062014805) : keystonelaw2_twin.f ps v d m = some (ps, v, d, m) := by
  show (if ([] : List Ty).length + ps.length < 5864062014805 then _ else none) = _
  rw [if_pos (by simpa using h)]
  rfl
theorem few_f (ps : List Ty) (v : Bool) (d : Int) (m : ByteArray) : keystonelaw2_few.f ps v d m = some (decide ((ps.length : Int) < 100)) := rfl
theorem sigE_len (acc : List Ty) (r : List UInt8) : (sigE acc r).1.length ≤ 16 := by
  unfold sigE
  repeat' split
  all_goals simp only [List.length_nil] <;> omega
theorem sigP_len : ∀ (f : Nat) (acc : List Ty) (l : List UInt8), (sigP f acc l).1.length ≤ 16
  | 0, acc, [] => by simp [sigP]
  | f + 1, acc, [] => by simp [sigP]
  | 0, acc, c :: t => by simp [sigP]
  | f + 1, acc, c :: t => by
    simp only [sigP]
    split
    · exact sigE_len _ _
    · split
      · simp
      · exact sigP_len f _ _
theorem sigS_len (l : List UInt8) : (sigS l).1.length ≤ 16 := by
  unfold sigS
  split
  · exact sigP_len _ _ _
  · simp
theorem sameS_refl (ps : List Ty) (v : Bool) (d : Int) (m : ByteArray) : sameS ps v d m ps v d m = true := (sameS_iff _ _ _ _ _ _ _ _).2 ⟨rfl, rfl, rfl, rfl⟩
theorem sigE_size (acc : List Ty) (r : List UInt8) : (sigE acc r).2.2.2.1.size ≤ 32 := by
  unfold sigE
  split
  · split <;> exact Nat.zero_le _
  · split
    · rename_i h
      have := first_len h
      split
      · exact Nat.zero_le _
      · simp only [BA_size]; omega
    · exact Nat.zero_le _
theorem sigE_in (acc : List Ty) (r : List UInt8) : ∀ t ∈ (sigE acc r).1, t ∈ acc := by
  unfold sigE
  repeat' split
  all_goals first | (intro t ht; exact ht) | (intro t ht; simp at ht)
theorem sigP_size : ∀ (f : Nat) (acc : List Ty) (l : List UInt8), (∀ t ∈ acc, t.f1.size ≤ 32) → (∀ t ∈ (sigP f acc l).1, t.f1.size ≤ 32) ∧ (sigP f acc l).2.2.2.1.size ≤ 32
  | 0, acc, [], h => ⟨fun t ht => by simp [sigP] at ht, Nat.zero_le _⟩
  | f + 1, acc, [], h => ⟨fun t ht => by simp [sigP] at ht, Nat.zero_le _⟩
  | 0, acc, c :: t, h => ⟨fun t ht => by simp [sigP] at ht, Nat.zero_le _⟩
  | f + 1, acc, c :: t, h => by
    simp only [sigP]
    split
    · exact ⟨fun t ht => h t (sigE_in _ _ t ht), sigE_size _ _⟩
    · split
      · exact ⟨fun t ht => by simp at ht, Nat.zero_le _⟩
      · rename_i n m r hf
        have := first_len hf
        exact sigP_size f _ _ (fun t ht => by
          rcases List.mem_append.1 ht with ht | ht
          · exact h t ht
          · rw [List.mem_singleton.1 ht]; simp only [BA_size]; omega)
theorem sigS_size (l : List UInt8) : (∀ t ∈ (sigS l).1, t.f1.size ≤ 32) ∧ (sigS l).2.2.2.1.size ≤ 32 := by
  unfold sigS
  split
  · exact sigP_size _ _ _ (fun t ht => by simp at ht)
  · exact ⟨fun t ht => by simp at ht, Nat.zero_le _⟩
theorem ok_in {g : S32} (h : ok32 g) : (∀ t ∈ g.f0, t.f1.size ≤ 140737488355328) ∧ g.f2.f1.size ≤ 140737488355328 := by
  refine ⟨fun t ht => ?_, ?_⟩
  · have := (h.1.1 t ht).2; omega
  · have := h.2.2.2; omega
end Go.Proofs.YtlajkmnmooilmaaDoor.Pure
