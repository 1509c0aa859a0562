/- DescSigs, plainly. -/
import Derived.Test.YtlajkmnmooilmaaDoorPure2u
import Derived.Test.YtlajkmnmooilmaaDoorPureKnown2
import Derived.Test.YtlajkmnmooilmaaDoorPure2r
import Derived.Test.YtlajkmnmooilmaaDoorP20
namespace Go.Proofs.YtlajkmnmooilmaaDoor.Pure
open Go.RowKit Go.Proofs.YtlajkmnmooilmaaDoor.P Go.Proofs.YtlajkmnmooilmaaDoorW.PrintWords
set_option linter.unusedVariables false
theorem sigs_j (a0 : ByteArray) (ps : List Ty) (v : Bool) (d : Int) (m : ByteArray) (qs : List Ty) (w : Bool) (e : Int) (n : ByteArray) (hs : a0.size ≤ 1000000000000) (h1 : ps.length < 100) (h2 : ∀ t ∈ ps, t.f1.size ≤ 140737488355328) (h3 : m.size ≤ 140737488355328) : Ev (fun k => keystonelaw2_DescSigs.j0 k a0 false ps v d m qs w e n) true := by
  have hl := sigS_len (LL a0)
  have s0 := sameS_refl (sigS (LL a0)).1 (sigS (LL a0)).2.1 (sigS (LL a0)).2.2.1 (sigS (LL a0)).2.2.2.1
  have hq := rsame_f (sigS (LL a0)).1 (sigS (LL a0)).2.1 (sigS (LL a0)).2.2.1 (sigS (LL a0)).2.2.2.1 (sigS (LL a0)).1 (sigS (LL a0)).2.1 (sigS (LL a0)).2.2.1 (sigS (LL a0)).2.2.2.1 (by omega)
  have hp := rsame_f ps v d m ps v d m (by omega)
  rw [s0] at hq
  rw [sameS_refl] at hp
  refine Ev.step (fun k => by rw [keystonelaw2_DescSigs.j0]) (Ev_neg Bool.false_ne_true (Ev.bind (dsig_f _ hs) (Ev.bind (rsig_f _ hs) (Ev_bindc (twin_f ps v d m (by omega)) (Ev.bind (dsigt_f _ _ _ _ h3 h2) (Ev.bind (rsigt_f _ _ _ _ h3 h2) (Ev.bind hq ?_)))))))
  refine Ev_pos rfl (Ev_pos rfl (Ev_pos rfl (Ev_pos rfl (Ev.bind hp (Ev_pos rfl (Ev.bind (dsame_f _ _ _ _ _ _ _ _ (by show ps.length ≤ _; omega)) (Ev.bind (rsame_f _ _ _ _ _ _ _ _ (by omega)) (Ev_const ?_))))))))
  simp
theorem DescSigs (a0 : ByteArray) (a1 a2 : S32) (h0 : a0.size ≤ 140737488351232) (h1 : ok32 a1) (h2 : ok32 a2) (B : (a0.size + 1) + (m32 a1) + (m32 a2) ≤ 1048576) : ∃ k, keystonelaw2_DescSigs.f k a0 a1.f0 a1.f1 a1.f2.f0 a1.f2.f1 a2.f0 a2.f1 a2.f2.f0 a2.f2.f1 = some true := by
  refine Ev.rounds ?_
  obtain ⟨i1, i2⟩ := ok_in h1
  unfold keystonelaw2_DescSigs.f
  refine Ev.bind known2_t (Ev_pos rfl (Ev_bindc (few_f _ _ _ _) ?_))
  have stop : ∀ {x ps v d m qs w e n}, Ev (fun k => keystonelaw2_DescSigs.j0 k x true ps v d m qs w e n) true := fun {x ps v d m qs w e n} => by
    refine Ev.step (fun k => by rw [keystonelaw2_DescSigs.j0]) ?_
    exact Ev_pos rfl (Ev.now _)
  by_cases hf : ((a1.f0.length : Int) < 100)
  · refine Ev_pos (by simpa using hf) (Ev_bindc (few_f _ _ _ _) ?_)
    by_cases hg : ((a2.f0.length : Int) < 100)
    · rw [decide_eq_true hg]
      exact sigs_j _ _ _ _ _ _ _ _ _ (by omega) (by omega) i1 i2
    · rw [decide_eq_false hg]
      exact stop
  · exact Ev_neg (by simpa using hf) stop
end Go.Proofs.YtlajkmnmooilmaaDoor.Pure
