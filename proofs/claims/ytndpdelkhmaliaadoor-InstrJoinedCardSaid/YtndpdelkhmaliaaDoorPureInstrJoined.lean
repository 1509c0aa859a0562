/- InstrJoined, plainly. -/
import Derived.Test.YtndpdelkhmaliaaDoorPure4d
import Derived.Test.YtndpdelkhmaliaaDoorPureKnown4
import Derived.Test.YtndpdelkhmaliaaDoorP9
namespace Go.Proofs.YtndpdelkhmaliaaDoor.Pure
open Go.RowKit Go.Proofs.YtndpdelkhmaliaaDoor.P Go.Proofs.YtndpdelkhmaliaaDoorW.PrintWords
theorem joined_l (a0 : List Int) (lx ly : List S38) (h0 : a0.length ≤ 2000) (hx : lx.length ≤ 2000) (hy : ly.length ≤ 2000) (hp : ∀ x ∈ ly, 0 ≤ x.f0 ∧ x.f0 ≤ 2000) : ∀ (d j : Nat), j + d = ly.length →
    Ev (fun k => keystonelaw4_InstrJoined.l0 k a0 lx ly (lx ++ ly.map (mv a0.length)) (j : Int)) true
  | 0, j, hj => by
    refine Ev.step (fun k => by rw [keystonelaw4_InstrJoined.l0]) (Ev_neg (by omega) (Ev_pos (by omega) (Ev_pos (by simp; omega) ?_)))
    rw [Int.toNat_natCast, List.take_left]
    exact Ev.bind (same_self lx (by omega)) (Ev.now _)
  | d + 1, j, hj => by
    obtain ⟨x, hx'⟩ := at_of (l := ly) (j := j) (by omega)
    have hr : rd_T38 ly (j : Int) = x := getD_at rfl hx'
    have hw : wrap64 ((lx.length : Int) + j) = ((lx.length + j : Nat) : Int) := by rw [w64] <;> omega
    have hz : rd_T38 (lx ++ ly.map (mv a0.length)) ((lx.length + j : Nat) : Int) = mv a0.length x := getD_at rfl (by rw [List.getElem?_append_right (by omega), Nat.add_sub_cancel_left, List.getElem?_map, hx']; rfl)
    have hb := hp x (List.mem_of_getElem? hx')
    have he : wrap64 (x.f0 + (a0.length : Int)) = x.f0 + a0.length := w64 (by omega) (by omega)
    refine Ev.step (fun k => by rw [keystonelaw4_InstrJoined.l0, hw, hr, hz, he]) ?_
    refine Ev_pos (by omega) (Ev_pos (by omega) (Ev_pos (by omega) (Ev_pos (by simp; omega) (Ev_neg (by simp [mv]) ?_))))
    rw [show wrap64 ((j : Int) + 1) = ((j + 1 : Nat) : Int) by rw [w64] <;> omega]
    exact joined_l a0 lx ly h0 hx hy hp d (j + 1) (by omega)
theorem InstrJoined (a0 a1 : List Int) (h0 : (∀ x_ ∈ a0, (Lit.int .u8 x_).wf = true) ∧ a0.length ≤ maxLen ∧ a0.length * 1 ≤ 140737488351232) (h1 : (∀ x_ ∈ a1, (Lit.int .u8 x_).wf = true) ∧ a1.length ≤ maxLen ∧ a1.length * 1 ≤ 140737488351232) : ∃ k, keystonelaw4_InstrJoined.f k a0 a1 = some true := by
  refine Ev.rounds ?_
  have hb := bytes_of h0.1
  have hb' := bytes_of h1.1
  unfold keystonelaw4_InstrJoined.f
  refine Ev.bind known_t (Ev_pos rfl ?_)
  have skip : Ev (fun k => keystonelaw4_InstrJoined.j0 k a0 a1 true) true := Ev.step (fun k => by rw [keystonelaw4_InstrJoined.j0]) (Ev_pos rfl (Ev.now _))
  refine Ev_ite (fun _ => skip) (fun hl => ?_)
  by_cases hl' : (a1.length : Int) > 2000
  · rw [decide_eq_true hl']; exact skip
  rw [decide_eq_false hl']
  refine Ev.step (fun k => by rw [keystonelaw4_InstrJoined.j0]) (Ev_neg Bool.false_ne_true ?_)
  refine Ev.bind (all_f a0 hb (by omega)) (Ev.bind (all_f a1 hb' (by omega)) (Ev_some (Ev_pos (by simp; omega) (Ev_some ?_))))
  rw [List.nil_append]
  have hbc : Bytes (a0 ++ a1) := fun x hx => (List.mem_append.1 hx).elim (hb x) (hb' x)
  refine Ev_pos (by omega) (Ev.bind (all_f (a0 ++ a1) hbc (by simp; omega)) ?_)
  cases hp : parse a0.length 0 a0 with
  | error ke =>
    obtain ⟨k, e⟩ := ke
    have hin := (parse_in _ _ _ (Nat.le_refl _)).2 k e hp
    simp only [allOf]
    refine Ev_neg (by omega) (Ev_ite (fun _ => Ev.now _) (fun h11 => ?_))
    rw [parse_bad _ _ _ _ _ _ _ (Nat.le_refl _) (Nat.le_refl _) h11 hp]
    exact Ev_pos rfl (Ev_const (by simp))
  | ok lx =>
    have hlx := parse_len _ _ _ _ hp
    rw [parse_app a0.length (a0 ++ a1).length 0 a0 a1 lx (Nat.le_refl _) (Nat.le_refl _) hp, parse_fuel (a0 ++ a1).length a1.length (0 + (a0.length : Int)) a1 (by simp) (Nat.le_refl _), parse_mv (a0.length : Int) a1.length 0 a1 (Nat.le_refl _)]
    have hin := parse_in a1.length 0 a1 (Nat.le_refl _)
    cases hq : parse a1.length 0 a1 with
    | error ke =>
      obtain ⟨k, e⟩ := ke
      have := hin.2 k e hq
      simp only [allOf, mvE, Except.map]
      refine Ev_pos trivial (Ev_neg (by omega) (Ev_pos trivial (Ev_pos (by rw [w64] <;> omega) (Ev_const (by simp)))))
    | ok ly =>
      have hly := parse_len _ _ _ _ hq
      simp only [allOf, mvE, Except.map, List.nil_append]
      refine Ev_pos trivial (Ev_pos trivial (Ev_pos trivial ?_))
      have hne : (((lx ++ ly.map (mv a0.length)).length : Int) != wrap64 ((lx.length : Int) + (ly.length : Int))) = false := by rw [w64 (by omega) (by omega)]; simp
      rw [hne]
      refine Ev.step (fun k => by rw [keystonelaw4_InstrJoined.j1]) (Ev_neg Bool.false_ne_true ?_)
      exact joined_l a0 lx ly (by omega) (by omega) (by omega) (fun x hx => by have := hin.1 ly hq x hx; omega) ly.length 0 (Nat.zero_add _)
end Go.Proofs.YtndpdelkhmaliaaDoor.Pure
