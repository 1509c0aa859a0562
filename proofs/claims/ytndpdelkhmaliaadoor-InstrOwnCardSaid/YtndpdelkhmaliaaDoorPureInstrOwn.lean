/- InstrOwn, plainly. -/
import Derived.Test.YtndpdelkhmaliaaDoorPure4b
import Derived.Test.YtndpdelkhmaliaaDoorPureKnown4
import Derived.Test.YtndpdelkhmaliaaDoorP11
namespace Go.Proofs.YtndpdelkhmaliaaDoor.Pure
open Go.RowKit Go.Proofs.YtndpdelkhmaliaaDoor.P Go.Proofs.YtndpdelkhmaliaaDoorW.PrintWords
theorem own_3 (b : List S38) (hb : b.length ≤ 5000) : ∀ (d j : Nat) (c : List Int), j + d = 20 → c.length ≤ 20000 + j →
    Ev (fun k => keystonelaw4_InstrOwn.l3 k b b c (encS [] b).2 (encS [] b).1 (encS [] b).2 (j : Int)) true
  | 0, j, c, hj, hc => by
    refine Ev.step (fun k => by rw [keystonelaw4_InstrOwn.l3]) (Ev_neg (by omega) ?_)
    exact Ev.bind (encode_f b (by omega)) (Ev.bind (same_self b (by omega)) (Ev_pos rfl (Ev_pos rfl (Ev_pos rfl (Ev_const (by simp))))))
  | d + 1, j, c, hj, hc => by
    refine Ev.step (fun k => by rw [keystonelaw4_InstrOwn.l3]) (Ev_pos (by omega) (Ev_pos (by omega) ?_))
    rw [show wrap64 ((j : Int) + 1) = ((j + 1 : Nat) : Int) by rw [w64] <;> omega]
    exact own_3 b hb d (j + 1) _ (by omega) (by simp; omega)
theorem own_2 (b : List S38) (hb : b.length ≤ 5000) : ∀ (d j : Nat) (c : List Int), j + d = c.length → c.length ≤ 20000 →
    Ev (fun k => keystonelaw4_InstrOwn.l2 k b b c (encS [] b).2 (encS [] b).1 (encS [] b).2 (j : Int)) true
  | 0, j, c, hj, hc => by
    refine Ev.step (fun k => by rw [keystonelaw4_InstrOwn.l2]) (Ev_neg (by omega) ?_)
    exact own_3 b hb 20 0 c (by omega) (by omega)
  | d + 1, j, c, hj, hc => by
    refine Ev.step (fun k => by rw [keystonelaw4_InstrOwn.l2]) (Ev_pos (by omega) (Ev_pos (by omega) ?_))
    rw [show wrap64 ((j : Int) + 1) = ((j + 1 : Nat) : Int) by rw [w64] <;> omega]
    exact own_2 b hb d (j + 1) _ (by simp; omega) (by simp; omega)
theorem encS_le : ∀ (l : List S38) (acc : List Int), (encS acc l).1.length ≤ acc.length + 3 * l.length
  | [], acc => by simp [encS]
  | i :: l, acc => by
    have ih := encS_le l (acc ++ codeOf i)
    have := codeOf_le i
    simp only [encS]
    split
    · simp
    · split
      · simp
      · simp only [List.length_append, List.length_cons] at ih ⊢; omega
theorem own_1 (b : List S38) (hb : b.length ≤ 5000) : ∀ (d j : Nat) (a : List S38), j + d = 20 → a.length ≤ 5000 + j →
    Ev (fun k => keystonelaw4_InstrOwn.l1 k a b b (j : Int)) true
  | 0, j, a, hj, ha => by
    refine Ev.step (fun k => by rw [keystonelaw4_InstrOwn.l1]) (Ev_neg (by omega) ?_)
    exact Ev.bind (encode_f b (by omega)) (Ev.bind (encode_f b (by omega)) (own_2 b hb _ 0 _ (Nat.zero_add _) (by have := encS_le b []; simp at this; omega)))
  | d + 1, j, a, hj, ha => by
    refine Ev.step (fun k => by rw [keystonelaw4_InstrOwn.l1]) (Ev_pos (by omega) (Ev_pos (by omega) ?_))
    rw [show wrap64 ((j : Int) + 1) = ((j + 1 : Nat) : Int) by rw [w64] <;> omega]
    exact own_1 b hb d (j + 1) _ (by omega) (by simp; omega)
theorem own_0 (b : List S38) (hb : b.length ≤ 5000) : ∀ (d j : Nat) (a : List S38), j + d = a.length → a.length ≤ 5000 →
    Ev (fun k => keystonelaw4_InstrOwn.l0 k a b b (j : Int)) true
  | 0, j, a, hj, ha => by
    refine Ev.step (fun k => by rw [keystonelaw4_InstrOwn.l0]) (Ev_neg (by omega) ?_)
    exact own_1 b hb 20 0 a (by omega) (by omega)
  | d + 1, j, a, hj, ha => by
    refine Ev.step (fun k => by rw [keystonelaw4_InstrOwn.l0]) (Ev_pos (by omega) (Ev_pos (by omega) ?_))
    rw [show wrap64 ((j : Int) + 1) = ((j + 1 : Nat) : Int) by rw [w64] <;> omega]
    exact own_0 b hb d (j + 1) _ (by simp; omega) (by simp; omega)
theorem InstrOwn (a0 : List Int) (h0 : (∀ x_ ∈ a0, (Lit.int .u8 x_).wf = true) ∧ a0.length ≤ maxLen ∧ a0.length * 1 ≤ 140737488351232) : ∃ k, keystonelaw4_InstrOwn.f k a0 = some true := by
  refine Ev.rounds ?_
  have hb := bytes_of h0.1
  unfold keystonelaw4_InstrOwn.f
  refine Ev.bind known_t (Ev_pos rfl (Ev_ite (fun _ => Ev.now _) (fun h => Ev_some (Ev_pos (by simp; omega) (Ev_some ?_)))))
  rw [List.nil_append]
  have hl : (allOf [] (parse a0.length 0 a0)).1.length ≤ 5000 := by
    cases hp : parse a0.length 0 a0 with
    | error e => simp [allOf]
    | ok l => have := parse_len _ _ _ _ hp; simp only [allOf, List.nil_append]; omega
  refine Ev.bind (all_f a0 hb (by omega)) (Ev.bind (all_f a0 hb (by omega)) (Ev_some (Ev_pos (by simp; omega) ?_)))
  rw [List.nil_append]
  exact own_0 _ hl _ 0 _ (Nat.zero_add _) hl
end Go.Proofs.YtndpdelkhmaliaaDoor.Pure
