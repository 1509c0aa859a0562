/- Chapter 2, plainly: of the type at a text's head. -/
import Derived.Test.YtlajkmnmooilmaaDoorPure2b
namespace Go.Proofs.YtlajkmnmooilmaaDoor.Pure
open Go.RowKit Go.Proofs.YtlajkmnmooilmaaDoor.P Go.Proofs.YtlajkmnmooilmaaDoorW.PrintWords
set_option linter.unusedVariables false
theorem brk_91 (t : List UInt8) : brk (91 :: t) = brk t + 1 := by unfold brk; rw [List.takeWhile_cons_of_pos (p := (· == (91 : UInt8))) rfl]; rfl
theorem brk_no {c : UInt8} (h : c ≠ 91) (t : List UInt8) : brk (c :: t) = 0 := by unfold brk; rw [List.takeWhile_cons_of_neg (p := (· == (91 : UInt8))) (by simpa using h)]; rfl
theorem u8_eq {c : UInt8} {n : Nat} (hn : n < 256) : ((c.toNat : Int) = (n : Int)) ↔ c = UInt8.ofNat n := by
  constructor
  · intro h
    apply UInt8.toNat_inj.1
    rw [UInt8.toNat_ofNat']
    omega
  · rintro rfl
    rw [UInt8.toNat_ofNat']
    omega
theorem semi_at (t : List UInt8) (h : semi t < t.length) : t[semi t]? = some 59 := by
  obtain ⟨c, hc⟩ := at_of (l := t) h
  have := takeWhile_end (p := (· != (59 : UInt8))) (l := t) (c := c) hc
  rw [hc]; simp at this; rw [this]
theorem first_len {l : List UInt8} {n : Nat} {m r : List UInt8} (h : firstL l = some (n, m, r)) : r.length < l.length ∧ n ≤ 8 ∧ m.length ≤ 32 := by
  unfold firstL at h
  split at h
  · cases h
  · rename_i h8
    split at h
    · cases h
    · rename_i c t hd
      have hlen : t.length + 1 = l.length - brk l := by rw [← List.length_drop, hd]; rfl
      split at h
      · simp only [Option.some.injEq, Prod.mk.injEq] at h
        obtain ⟨rfl, rfl, rfl⟩ := h
        exact ⟨by omega, by omega, by simp⟩
      · split at h
        · split at h
          · rename_i hh
            simp only [Option.some.injEq, Prod.mk.injEq] at h
            obtain ⟨rfl, rfl, rfl⟩ := h
            have := hh.2
            unfold nmL at this
            simp only [Bool.and_eq_true, decide_eq_true_eq] at this
            exact ⟨by rw [List.length_drop]; omega, by omega, this.2.2⟩
          · cases h
        · cases h
theorem first_rest {l : List UInt8} {n : Nat} {m r : List UInt8} (h : firstL l = some (n, m, r)) : ∃ p, p ++ r = l := by
  unfold firstL at h
  split at h
  · cases h
  · split at h
    · cases h
    · rename_i c t hd
      have hl : l = l.take (brk l) ++ c :: t := by rw [← hd, List.take_append_drop]
      split at h
      · simp only [Option.some.injEq, Prod.mk.injEq] at h
        obtain ⟨rfl, rfl, rfl⟩ := h
        exact ⟨l.take (brk l) ++ [c], by rw [List.append_assoc]; exact hl.symm⟩
      · split at h
        · split at h
          · simp only [Option.some.injEq, Prod.mk.injEq] at h
            obtain ⟨rfl, rfl, rfl⟩ := h
            refine ⟨l.take (brk l) ++ c :: t.take (semi t + 1), ?_⟩
            rw [List.append_assoc, List.cons_append, List.take_append_drop]
            exact hl.symm
          · cases h
        · cases h
end Go.Proofs.YtlajkmnmooilmaaDoor.Pure
