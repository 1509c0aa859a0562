/- DescBack, plainly. -/
import Derived.Test.YtlajkmnmooilmaaDoorPure2v
import Derived.Test.YtlajkmnmooilmaaDoorPureKnown2
import Derived.Test.YtlajkmnmooilmaaDoorP21
namespace Go.Proofs.YtlajkmnmooilmaaDoor.Pure
open Go.RowKit Go.Proofs.YtlajkmnmooilmaaDoor.P Go.Proofs.YtlajkmnmooilmaaDoorW.PrintWords
set_option linter.unusedVariables false
theorem textS_size (d : Int) (s : ByteArray) : (textS d s).1.size ≤ 50 := by
  unfold textS
  split
  · rename_i h; rw [BA_size]; exact textL_len d s h
  · exact Nat.zero_le _
theorem sigT_size (ps : List Ty) (v : Bool) (d : Int) (m : ByteArray) : (sigT ps v d m).1.size ≤ 1000 := by
  unfold sigT
  split
  · exact Nat.zero_le _
  · rename_i h16
    split
    · rename_i hp
      have := parT_len ps hp
      split
      · split
        · simp only [BA_size, List.length_append, List.length_cons, List.length_nil]; omega
        · exact Nat.zero_le _
      · split
        · rename_i hc
          have := textL_len d m hc
          simp only [BA_size, List.length_append, List.length_cons]; omega
        · exact Nat.zero_le _
    · exact Nat.zero_le _
theorem back_j2 (a2 : ByteArray) (h2 : a2.size ≤ 1000000000000) : Ev (fun k => keystonelaw2_DescBack.j2 k a2) true := by
  obtain ⟨z1, z2⟩ := sigS_size (LL a2)
  have hw := @text_sig (LL a2)
  refine Ev.step (fun k => by rw [keystonelaw2_DescBack.j2]) (Ev.bind (dsig_f _ h2) ?_)
  generalize sigS (LL a2) = g at z1 z2 hw
  obtain ⟨ps, v, d, m, e⟩ := g
  by_cases he : e = 0
  · subst he
    have ht := hw rfl
    refine Ev_pos rfl (Ev.bind (dsigt_f _ _ _ _ (by omega) (fun t h => by have := z1 t h; omega)) ?_)
    rw [ht, BA_LL]
    exact Ev_pos rfl (Ev_const (by simp))
  · exact Ev_neg he (Ev.now _)
theorem back_j1 (a2 : ByteArray) (h2 : a2.size ≤ 1000000000000) : Ev (fun k => keystonelaw2_DescBack.j1 k a2) true := by
  refine Ev.step (fun k => by rw [keystonelaw2_DescBack.j1]) (Ev.bind (type_f _ (by omega)) ?_)
  have hw := @text_type (LL a2)
  have hz : (typeL (LL a2)).2.1.size ≤ 32 := by
    unfold typeL
    split
    · rename_i h; have := first_len h; simp only [BA_size]; omega
    · exact Nat.zero_le _
  generalize typeL (LL a2) = g at hz hw
  obtain ⟨d, m, e⟩ := g
  by_cases he : e = 0
  · refine Ev_pos he (Ev.bind (dtext_f _ _ (by omega)) ?_)
    rw [hw he, BA_LL]
    exact Ev_pos rfl (Ev_pos rfl (back_j2 a2 h2))
  · exact Ev_neg he (back_j2 a2 h2)
theorem back_j0 (a2 : ByteArray) (h2 : a2.size ≤ 1000000000000) (ps : List Ty) (v : Bool) (d : Int) (m : ByteArray) (i1 : ∀ t ∈ ps, t.f1.size ≤ 140737488355328) (i2 : m.size ≤ 140737488355328) : Ev (fun k => keystonelaw2_DescBack.j0 k a2 ps v d m) true := by
  have hz := sigT_size ps v d m
  refine Ev.step (fun k => by rw [keystonelaw2_DescBack.j0]) (Ev.bind (dsigt_f _ _ _ _ i2 i1) ?_)
  by_cases he : (sigT ps v d m).2 = 0
  · have h16 : ps.length ≤ 16 := Nat.not_lt.1 fun h => by rw [sigT_16 h] at he; exact absurd he (by simp)
    refine Ev_pos he (Ev.bind (dsig_f _ (by omega)) ?_)
    rw [sig_text _ _ _ _ he]
    refine Ev_pos rfl (Ev.bind (dsame_f _ _ _ _ _ _ _ _ (by show ps.length ≤ _; omega)) ?_)
    exact Ev_pos (sameS_refl _ _ _ _) (back_j1 a2 h2)
  · exact Ev_neg he (back_j1 a2 h2)
theorem DescBack (a0 : S26) (a1 : S32) (a2 : ByteArray) (h0 : ok26 a0) (h1 : ok32 a1) (h2 : a2.size ≤ 140737488351232) (B : (m26 a0) + (m32 a1) + (a2.size + 1) ≤ 1048576) : ∃ k, keystonelaw2_DescBack.f k a0.f0 a0.f1 a1.f0 a1.f1 a1.f2.f0 a1.f2.f1 a2 = some true := by
  refine Ev.rounds ?_
  obtain ⟨i1, i2⟩ := ok_in h1
  have hz := textS_size a0.f0 a0.f1
  have j0 := back_j0 a2 (by omega) a1.f0 a1.f1 a1.f2.f0 a1.f2.f1 i1 i2
  unfold keystonelaw2_DescBack.f
  refine Ev.bind known2_t (Ev_pos rfl (Ev_bindc (few_f _ _ _ _) ?_))
  by_cases hf : ((a1.f0.length : Int) < 100)
  · refine Ev_pos (by simpa using hf) (Ev.bind (dtext_f _ _ (by have := h0.2; omega)) ?_)
    by_cases hc : chk a0.f0 a0.f1 = 0
    · rw [textS_0 hc] at hz ⊢
      refine Ev_pos rfl (Ev.bind (type_f _ (by omega)) ?_)
      rw [LL_BA, type_text _ _ hc]
      exact Ev_pos rfl (Ev_neg (by simp) j0)
    · rw [textS_1 hc]
      exact Ev_neg hc j0
  · exact Ev_neg (by simpa using hf) (Ev.now _)
end Go.Proofs.YtlajkmnmooilmaaDoor.Pure
