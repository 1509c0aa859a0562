/- DescTurns, plainly. -/
import Derived.Test.YtlajkmnmooilmaaDoorPure2r
import Derived.Test.YtlajkmnmooilmaaDoorPure2d
import Derived.Test.YtlajkmnmooilmaaDoorP11
import Derived.Test.YtlajkmnmooilmaaDoorP20
import Derived.Test.YtlajkmnmooilmaaDoorP28
import Derived.Test.YtlajkmnmooilmaaDoorP30
namespace Go.Proofs.YtlajkmnmooilmaaDoor.Pure
open Go.RowKit Go.Proofs.YtlajkmnmooilmaaDoor.P Go.Proofs.YtlajkmnmooilmaaDoorW.PrintWords
set_option linter.unusedVariables false
theorem within_n (a n : Int) (h0 : 0 < n) (h1 : n ≤ 100000) : ∃ r : Nat, (r : Int) < n ∧ keystonelaw2_within.f a n = some (r : Int) := by
  have hlo : -n < a.tmod n := Int.lt_tmod_of_pos a h0
  have hhi : a.tmod n < n := Int.tmod_lt_of_pos a h0
  unfold keystonelaw2_within.f
  rw [if_neg (by omega)]
  by_cases h : a.tmod n < 0
  · refine ⟨(a.tmod n + n).toNat, by omega, ?_⟩
    rw [if_pos h, w64 (by omega) (by omega), Int.toNat_of_nonneg (by omega)]
  · refine ⟨(a.tmod n).toNat, by omega, ?_⟩
    rw [if_neg h, Int.toNat_of_nonneg (by omega)]
theorem sigT_sz (ps : List Ty) (v : Bool) (d : Int) (m : ByteArray) (h : (sigT ps v d m).2 = 0) : 0 < (sigT ps v d m).1.size ∧ (sigT ps v d m).1.size ≤ 1000 := by
  have h16 : ps.length ≤ 16 := Nat.not_lt.1 fun h' => by rw [sigT_16 h'] at h; exact absurd h (by simp)
  have hp : parE ps = 0 := Classical.byContradiction fun h' => by rw [sigT_e h16 h'] at h; exact h' h
  have hl := parT_len ps hp
  cases v with
  | true =>
    have h0 : d = 0 ∧ LL m = [] := Classical.byContradiction fun h' => by rw [sigT_t1 h16 hp h'] at h; exact absurd h (by simp)
    rw [sigT_t0 h16 hp h0]
    simp only [BA_size, List.length_append, List.length_cons, List.length_nil]
    omega
  | false =>
    have hc : chk d m = 0 := Classical.byContradiction fun h' => by rw [sigT_f1 h16 hp h'] at h; exact h' h
    have := textL_len _ _ hc
    rw [sigT_f0 h16 hp hc]
    simp only [BA_size, List.length_append, List.length_cons]
    omega
theorem sigs_j (a0 : ByteArray) (ps : List Ty) (v : Bool) (d : Int) (m : ByteArray) (qs : List Ty) (w : Bool) (e : Int) (n : ByteArray) (hs : a0.size ≤ 1000000000000) (h1 : ps.length < 100) (h2 : ∀ t ∈ ps, t.f1.size ≤ 140737488355328) (h3 : m.size ≤ 140737488355328) : Ev (fun k => keystonelaw2_DescSigs.j0 k a0 false ps v d m qs w e n) true := by
  have hl := sigS_len (LL a0)
  have s0 := sameS_refl (sigS (LL a0)).1 (sigS (LL a0)).2.1 (sigS (LL a0)).2.2.1 (sigS (LL a0)).2.2.2.1
  have hq := rsame_f (sigS (LL a0)).1 (sigS (LL a0)).2.1 (sigS (LL a0)).2.2.1 (sigS (LL a0)).2.2.2.1 (sigS (LL a0)).1 (sigS (LL a0)).2.1 (sigS (LL a0)).2.2.1 (sigS (LL a0)).2.2.2.1 (by omega)
  have hp := rsame_f ps v d m ps v d m (by omega)
  rw [s0] at hq
  rw [sameS_refl] at hp
  refine Ev.step (fun k => by rw [keystonelaw2_DescSigs.j0]) (Ev_neg Bool.false_ne_true (Ev.bind (dsig_f _ hs) (Ev.bind (rsig_f _ hs) (Ev_bindc (twin_f ps v d m (by omega)) (Ev.bind (dsigt_f _ _ _ _ h3 h2) (Ev.bind (rsigt_f _ _ _ _ h3 h2) (Ev.bind hq ?_)))))))
  refine Ev_pos rfl (Ev_pos rfl (Ev_pos rfl (Ev_pos rfl (Ev.bind hp (Ev_pos rfl (Ev.bind (dsame_f _ _ _ _ _ _ _ _ (by show ps.length ≤ _; omega)) (Ev.bind (rsame_f _ _ _ _ _ _ _ _ (by omega)) (Ev_const ?_))))))))
  simp
theorem sigs_all (x : ByteArray) (hs : x.size ≤ 1000000000000) (a : S32) (h : ok32 a) : Ev (fun k => keystonelaw2_DescSigs.f k x a.f0 a.f1 a.f2.f0 a.f2.f1 a.f0 a.f1 a.f2.f0 a.f2.f1) true := by
  obtain ⟨i1, i2⟩ := ok_in h
  unfold keystonelaw2_DescSigs.f
  refine Ev.bind known2_t (Ev_pos rfl (Ev_bindc (few_f _ _ _ _) ?_))
  by_cases hf : ((a.f0.length : Int) < 100)
  · refine Ev_pos (by simpa using hf) (Ev_bindc (few_f _ _ _ _) ?_)
    rw [decide_eq_true hf]
    exact sigs_j _ _ _ _ _ _ _ _ _ hs (by omega) i1 i2
  · refine Ev_neg (by simpa using hf) ?_
    refine Ev.step (fun k => by rw [keystonelaw2_DescSigs.j0]) ?_
    exact Ev_pos rfl (Ev.now _)
theorem types_all (x : ByteArray) (hs : x.size ≤ 1000000000000) : Ev (fun k => keystonelaw2_DescTypes.f k x 0 ⟨#[]⟩) true := by
  unfold keystonelaw2_DescTypes.f
  refine Ev.bind (type_f _ (by omega)) (Ev.bind (rtype_f _ (by omega)) (Ev.bind (dtext_f _ _ (by decide)) (Ev.bind (rtext_f _ _ (by decide)) (Ev.bind known2_t (Ev_pos rfl (Ev_pos (by simp) (Ev_pos rfl (Ev_pos rfl (Ev_const (by simp))))))))))
theorem turns_j (a : S32) (h : ok32 a) (x1 x2 x3 : Int) (x4 s : ByteArray) (h4 : x4.size ≤ 100) (hs0 : 0 < s.size) (hs1 : s.size ≤ 1000) : Ev (fun k => keystonelaw2_DescTurns.j0 k x1 x2 x3 x4 s false a.f0 a.f1 a.f2.f0 a.f2.f1) true := by
  obtain ⟨i, hi, ei⟩ := within_n x1 (s.size : Int) (by omega) (by omega)
  obtain ⟨j, hj, ej⟩ := within_n x3 ((s.size : Int) + 1) (by omega) (by omega)
  have hw : wrap64 ((s.size : Int) + 1) = (s.size : Int) + 1 := by rw [w64] <;> omega
  have ht := turnB_size s (i : Int) x2
  refine Ev.step (fun k => by rw [keystonelaw2_DescTurns.j0, hw]) ?_
  refine Ev_neg Bool.false_ne_true (Ev_bindc ei (Ev_pos ⟨by omega, by omega, by omega⟩ (Ev.bind (sigs_all _ (by omega) a h) (Ev_pos rfl (Ev_bindc ej (Ev_pos (by omega) (Ev_pos (by omega) (Ev.bind (sigs_all _ ?_ a h) (Ev_pos rfl (Ev_pos (by omega) (Ev_pos (by omega) (Ev_pos ?_ (Ev_pos ?_ (Ev.bind (sigs_all _ ?_ a h) (Ev_pos rfl (Ev.bind (types_all _ (by omega)) (Ev.now _)))))))))))))))))
  all_goals simp only [ByteArray.size_append, ByteArray.size_extract, Int.toNat_natCast]
  all_goals omega
theorem DescTurns (a0 : S32) (a1 a2 a3 : Int) (a4 : ByteArray) (h0 : ok32 a0) (h1 : (Lit.int .i64 a1).wf = true) (h2 : (Lit.int .u8 a2).wf = true) (h3 : (Lit.int .i64 a3).wf = true) (h4 : a4.size ≤ 140737488351232) : ∃ k, keystonelaw2_DescTurns.f k a0.f0 a0.f1 a0.f2.f0 a0.f2.f1 a1 a2 a3 a4 = some true := by
  refine Ev.rounds ?_
  obtain ⟨i1, i2⟩ := ok_in h0
  have stop : ∀ {x1 x2 x3 x4 s ps v d m}, Ev (fun k => keystonelaw2_DescTurns.j0 k x1 x2 x3 x4 s true ps v d m) true := fun {x1 x2 x3 x4 s ps v d m} => by
    refine Ev.step (fun k => by rw [keystonelaw2_DescTurns.j0]) ?_
    exact Ev_pos rfl (Ev.now _)
  unfold keystonelaw2_DescTurns.f
  refine Ev.bind known2_t (Ev_pos rfl (Ev.bind (rsigt_f a0.f0 a0.f1 a0.f2.f0 a0.f2.f1 i2 i1) ?_))
  by_cases he : (sigT a0.f0 a0.f1 a0.f2.f0 a0.f2.f1).2 = 0
  · have hz := sigT_sz _ _ _ _ he
    refine Ev_pos he ?_
    by_cases hm : (a4.size : Int) > 100
    · rw [decide_eq_true hm]; exact stop
    · rw [decide_eq_false hm]
      exact turns_j a0 h0 _ _ _ _ _ (by omega) hz.1 hz.2
  · exact Ev_neg he stop
end Go.Proofs.YtlajkmnmooilmaaDoor.Pure
