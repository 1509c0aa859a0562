/- InstrBack, plainly. -/
import Derived.Test.YtndpdelkhmaliaaDoorPure4d
import Derived.Test.YtndpdelkhmaliaaDoorPureKnown4
import Derived.Test.YtndpdelkhmaliaaDoorKinds
import Derived.Test.YtndpdelkhmaliaaDoorP10
namespace Go.Proofs.YtndpdelkhmaliaaDoor.Pure
open Go.RowKit Go.Proofs.YtndpdelkhmaliaaDoor.P Go.Proofs.YtndpdelkhmaliaaDoorW.PrintWords
theorem back_3 (c : List Int) (hb : Bytes c) (hl : c.length ≤ 5000) : Ev (fun k => keystonelaw4_InstrBack.j3 k c) true := by
  refine Ev.step (fun k => by rw [keystonelaw4_InstrBack.j3]) (Ev.bind (all_f c hb (by omega)) ?_)
  cases hp : parse c.length 0 c with
  | error ke =>
    obtain ⟨k, e⟩ := ke
    have := (parse_in _ _ _ (Nat.le_refl _)).2 k e hp
    simp only [allOf]
    refine Ev_neg (by omega) (Ev_pos (by simp) (Ev_pos (by omega) (Ev_const ?_)))
    exact congrArg some (decide_eq_true (show k < (c.length : Int) by omega))
  | ok l =>
    have hl' := parse_len _ _ _ _ hp
    obtain ⟨hg, hf⟩ := parse_back _ _ _ _ hb (Nat.le_refl _) hp
    simp only [allOf, List.nil_append]
    refine Ev_pos trivial (Ev.bind (encode_f l (by omega)) ?_)
    rw [encS_of l [] hg, List.nil_append, hf]
    exact Ev_pos rfl (Ev_const (by simp))
theorem back_l (c : List Int) (l : List S38) (hl : l.length ≤ 2000) (hg : ∀ i ∈ l, Good i) (h3 : Ev (fun k => keystonelaw4_InstrBack.j3 k c) true) : ∀ (d j : Nat), j + d = l.length →
    Ev (fun k => keystonelaw4_InstrBack.l0 k l c (flat l) (placed 0 l) ((flat (l.take j)).length : Int) (j : Int)) true
  | 0, j, hj => by
    refine Ev.step (fun k => by rw [keystonelaw4_InstrBack.l0]) (Ev_neg (by rw [placed_len]; omega) (Ev_pos ?_ h3))
    rw [List.take_of_length_le (by omega)]
  | d + 1, j, hj => by
    obtain ⟨x, hx⟩ := at_of (l := l) (j := j) (by omega)
    obtain ⟨hm, hd, hn, hlt, gx⟩ := placed_at l 0 j x hg hx
    have hr : rd_T38 l (j : Int) = x := getD_at rfl hx
    have hr' : rd_T38 (placed 0 l) (j : Int) = ⟨0 + ((flat (l.take j)).length : Int), x.f1, x.f2, size x.f1⟩ := getD_at rfl hm
    have hfl := flat_le l
    have hdec : decS (flat l) ((flat (l.take j)).length : Int) = (((flat (l.take j)).length : Int), x.f1, x.f2, size x.f1, 0) := by
      unfold decS
      rw [if_neg (by omega), Int.toNat_natCast, hd, (decT_code x gx _).1]; rfl
    have hs := size_le x.f1
    refine Ev.step (fun k => by rw [keystonelaw4_InstrBack.l0, hr, hr']) (Ev_pos (by rw [placed_len]; omega) (Ev.bind (decode_f _ (flat_bytes l hg) (by omega) _) ?_))
    rw [hdec]
    refine Ev_pos rfl (Ev_pos (by omega) (Ev_neg (by simp) (Ev_pos (by omega) (Ev_pos rfl (Ev_pos rfl (Ev_pos (by simp) (Ev.bind (size_f _) (Ev_pos rfl ?_))))))))
    rw [show wrap64 ((j : Int) + 1) = ((j + 1 : Nat) : Int) by rw [w64] <;> omega, show wrap64 (((flat (l.take j)).length : Int) + size x.f1) = ((flat (l.take (j + 1))).length : Int) by rw [w64] <;> omega]
    exact back_l c l hl hg h3 d (j + 1) (by omega)
theorem InstrBack (a0 : List S38) (a1 : List Int) (h0 : (∀ x_ ∈ a0, ok38 x_) ∧ a0.length ≤ maxLen ∧ a0.length * 32 ≤ 140737488351232) (h1 : (∀ x_ ∈ a1, (Lit.int .u8 x_).wf = true) ∧ a1.length ≤ maxLen ∧ a1.length * 1 ≤ 140737488351232) : ∃ k, keystonelaw4_InstrBack.f k a0 a1 = some true := by
  refine Ev.rounds ?_
  have hb := bytes_of h1.1
  unfold keystonelaw4_InstrBack.f
  refine Ev.bind known_t (Ev_pos rfl ?_)
  have skip : Ev (fun k => keystonelaw4_InstrBack.j0 k a0 a1 true) true := Ev.step (fun k => by rw [keystonelaw4_InstrBack.j0]) (Ev_pos rfl (Ev.now _))
  refine Ev_ite (fun _ => skip) (fun hl => ?_)
  by_cases hl' : (a1.length : Int) > 5000
  · rw [decide_eq_true hl']; exact skip
  rw [decide_eq_false hl']
  have h3 := back_3 a1 hb (by omega)
  refine Ev.step (fun k => by rw [keystonelaw4_InstrBack.j0]) (Ev_neg Bool.false_ne_true (Ev.bind (encode_f a0 (by omega)) (Ev_ite (fun he => ?_) (fun _ => h3))))
  obtain ⟨e1, hg⟩ := encS_ok a0 [] he
  rw [e1, List.nil_append]
  have hfl := flat_le a0
  refine Ev.bind (all_f _ (flat_bytes a0 hg) (by omega)) ?_
  rw [parse_flat a0 _ 0 hg (Nat.le_refl _)]
  simp only [allOf, List.nil_append]
  refine Ev_pos trivial (Ev_pos trivial ?_)
  rw [show (((placed 0 a0).length : Int) != (a0.length : Int)) = false by rw [placed_len]; simp]
  refine Ev.step (fun k => by rw [keystonelaw4_InstrBack.j1]) (Ev_neg Bool.false_ne_true ?_)
  exact back_l a1 a0 (by omega) hg h3 a0.length 0 (Nat.zero_add _)
end Go.Proofs.YtndpdelkhmaliaaDoor.Pure
