/- DescSame, plainly. -/
import Derived.Test.YtlajkmnmooilmaaDoorPure2m
import Derived.Test.YtlajkmnmooilmaaDoorPureKnown2
import Derived.Test.YtlajkmnmooilmaaDoorP26
namespace Go.Proofs.YtlajkmnmooilmaaDoor.Pure
open Go.RowKit Go.Proofs.YtlajkmnmooilmaaDoor.P Go.Proofs.YtlajkmnmooilmaaDoorW.PrintWords
set_option linter.unusedVariables false
theorem sameS_comm (ps : List Ty) (v : Bool) (d : Int) (m : ByteArray) (qs : List Ty) (w : Bool) (e : Int) (n : ByteArray) : sameS ps v d m qs w e n = sameS qs w e n ps v d m := by
  rw [Bool.eq_iff_iff, sameS_iff, sameS_iff]
  constructor <;> rintro ⟨rfl, rfl, rfl, rfl⟩ <;> exact ⟨rfl, rfl, rfl, rfl⟩
theorem same_text (ps : List Ty) (v : Bool) (d : Int) (m : ByteArray) (qs : List Ty) (w : Bool) (e : Int) (n : ByteArray) (h1 : (sigT ps v d m).2 = 0) (h2 : (sigT qs w e n).2 = 0) : sameS ps v d m qs w e n = ((sigT ps v d m).1.toList == (sigT qs w e n).1.toList) := by
  rw [Bool.eq_iff_iff, sameS_iff, beq_iff_eq, ← bytes_eq]
  constructor
  · rintro ⟨rfl, rfl, rfl, rfl⟩; rfl
  · intro h
    have a := sig_text _ _ _ _ h1
    have b := sig_text _ _ _ _ h2
    rw [h, b] at a
    simp only [Prod.mk.injEq] at a
    obtain ⟨rfl, rfl, rfl, rfl, _⟩ := a
    exact ⟨rfl, rfl, rfl, rfl⟩
/-- What is made of a signature's own types is it. -/
theorem make_own (ps : List Ty) (d : Int) (m : ByteArray) (h : (sigT ps false d m).2 = 0) : makeS false (ps ++ [⟨d, m⟩]) = (ps, false, d, m, 0) := by
  unfold makeS
  rw [if_neg Bool.false_ne_true]
  simp only [List.getLast?_append, List.getLast?_singleton, Option.some_or, List.dropLast_concat]
  unfold mkS
  rw [if_pos h]
theorem make_void (ps : List Ty) (d : Int) (m : ByteArray) (h : (sigT ps true d m).2 = 0) : makeS true ps = (ps, true, d, m, 0) := by
  have h16 : ps.length ≤ 16 := Nat.not_lt.1 fun h' => by rw [sigT_16 h'] at h; exact absurd h (by simp)
  have hp : parE ps = 0 := Classical.byContradiction fun h' => by rw [sigT_e h16 h'] at h; exact h' h
  have h0 : d = 0 ∧ LL m = [] := Classical.byContradiction fun h' => by rw [sigT_t1 h16 hp h'] at h; exact absurd h (by simp)
  obtain ⟨rfl, hm⟩ := h0
  obtain rfl : m = ⟨#[]⟩ := LL_inj hm
  unfold makeS
  rw [if_pos rfl]
  unfold mkS
  rw [if_pos h]
theorem same_j2 (ps : List Ty) (v : Bool) (d : Int) (m : ByteArray) (qs : List Ty) (w : Bool) (e : Int) (n : ByteArray) (h1 : ps.length < 100) (h2 : ∀ t ∈ ps, t.f1.size ≤ 140737488355328) (h3 : m.size ≤ 140737488355328) (b : Bool) (hb : b = false → (sigT ps v d m).2 = 0 ∧ (sigT qs w e n).2 = 0) :
    Ev (fun k => keystonelaw2_DescSame.j2 k (sigT ps v d m).1 (sigT qs w e n).1 b ps v d m qs w e n) true := by
  refine Ev.step (fun k => by rw [keystonelaw2_DescSame.j2]) ?_
  cases b with
  | true => exact Ev_pos rfl (Ev.now _)
  | false =>
    obtain ⟨e1, e2⟩ := hb rfl
    have hs := same_text ps v d m qs w e n e1 e2
    have hq := dsame_f ps v d m qs w e n (by omega)
    have hr := dsame_f ps v d m ps v d m (by omega)
    rw [sameS_refl] at hr
    refine Ev_neg Bool.false_ne_true (Ev_bindc rfl (Ev_pos (by show ([] : List Ty).length + ps.length < _; simp; omega) (Ev_bindc rfl ?_)))
    simp only [List.nil_append]
    cases v with
    | true =>
      have hm := dmake_f true ps (by omega) h2
      rw [make_void ps d m e1] at hm
      exact Ev_pos rfl (Ev.bind hm (Ev.bind hq (Ev_pos (by rw [hs]; simp) (Ev_pos rfl (Ev.bind hr (Ev.now _))))))
    | false =>
      have hm := dmake_f false (ps ++ [⟨d, m⟩]) (by simp; omega) (fun t ht => by
        rcases List.mem_append.1 ht with ht | ht
        · exact h2 t ht
        · rw [List.mem_singleton.1 ht]; exact h3)
      rw [make_own ps d m e1] at hm
      exact Ev_neg Bool.false_ne_true (Ev_pos (by omega) (Ev.bind hm (Ev.bind hq (Ev_pos (by rw [hs]; simp) (Ev_pos rfl (Ev.bind hr (Ev.now _)))))))
theorem DescSame (a0 a1 : S32) (h0 : ok32 a0) (h1 : ok32 a1) : ∃ k, keystonelaw2_DescSame.f k a0.f0 a0.f1 a0.f2.f0 a0.f2.f1 a1.f0 a1.f1 a1.f2.f0 a1.f2.f1 = some true := by
  refine Ev.rounds ?_
  obtain ⟨i1, i2⟩ := ok_in h0
  obtain ⟨i3, i4⟩ := ok_in h1
  unfold keystonelaw2_DescSame.f
  refine Ev.bind known2_t (Ev_pos rfl (Ev_bindc (few_f _ _ _ _) ?_))
  have stop : ∀ {ps v d m qs w e n}, Ev (fun k => keystonelaw2_DescSame.j0 k true ps v d m qs w e n) true := fun {ps v d m qs w e n} => by
    refine Ev.step (fun k => by rw [keystonelaw2_DescSame.j0]) ?_
    exact Ev_pos rfl (Ev.now _)
  by_cases hf : ((a0.f0.length : Int) < 100)
  · refine Ev_pos (by simpa using hf) (Ev_bindc (few_f _ _ _ _) ?_)
    by_cases hg : ((a1.f0.length : Int) < 100)
    · rw [decide_eq_true hg, Bool.not_true]
      have hr := dsame_f a0.f0 a0.f1 a0.f2.f0 a0.f2.f1 a0.f0 a0.f1 a0.f2.f0 a0.f2.f1 (by omega)
      rw [sameS_refl] at hr
      have hx := dsame_f a1.f0 a1.f1 a1.f2.f0 a1.f2.f1 a0.f0 a0.f1 a0.f2.f0 a0.f2.f1 (by omega)
      rw [sameS_comm] at hx
      refine Ev.step (fun k => by rw [keystonelaw2_DescSame.j0]) (Ev_neg Bool.false_ne_true (Ev.bind (dsigt_f a0.f0 a0.f1 a0.f2.f0 a0.f2.f1 i2 i1) (Ev.bind (dsigt_f a1.f0 a1.f1 a1.f2.f0 a1.f2.f1 i4 i3) (Ev.bind hr (Ev_pos rfl (Ev.bind (dsame_f a0.f0 a0.f1 a0.f2.f0 a0.f2.f1 a1.f0 a1.f1 a1.f2.f0 a1.f2.f1 (by omega)) (Ev.bind hx ?_)))))))
      rw [bne_self_eq_false]
      refine Ev.step (fun k => by rw [keystonelaw2_DescSame.j1]) (Ev_neg Bool.false_ne_true ?_)
      by_cases e1 : (sigT a0.f0 a0.f1 a0.f2.f0 a0.f2.f1).2 = 0
      · exact Ev_pos e1 (same_j2 _ _ _ _ _ _ _ _ (by omega) i1 i2 _ (fun h => ⟨e1, by simpa using h⟩))
      · exact Ev_neg e1 (same_j2 _ _ _ _ _ _ _ _ (by omega) i1 i2 _ (fun h => by simp at h))
    · rw [decide_eq_false hg]
      exact stop
  · exact Ev_neg (by simpa using hf) stop
end Go.Proofs.YtlajkmnmooilmaaDoor.Pure
