/- The program's pool.Check, plainly. -/
import Derived.Test.YtldejfkplnejjaaDoorPure3a
import Derived.Test.YtldejfkplnejjaaDoorP5
namespace Go.Proofs.YtldejfkplnejjaaDoor.Pure
open Go.RowKit Go.Proofs.YtldejfkplnejjaaDoor.P Go.Proofs.YtldejfkplnejjaaDoorW.PrintWords
set_option linter.unusedVariables false
/-- The first wrong one. -/
def badE (l : List En) : Int → List En → Int × Int
  | _, [] => (0, 0)
  | i, x :: r => if wrongS l x = 0 then badE l (i + 1) r else (i, wrongS l x)
def pcheckS (l : List En) : Int × Int := if 4096 < l.length then (4096, 4) else badE l 0 l
theorem pcheck_l (l : List En) (hl : Small l) (hn : l.length ≤ 4096) : ∀ (c j : Nat), j + c = l.length → Ev (fun k => pool_Check.l0 k l l (l.length : Int) (j : Int)) (badE l (j : Int) (l.drop j))
  | 0, j, hj => by
    rw [List.drop_of_length_le (by omega)]
    refine Ev.step (fun k => by rw [pool_Check.l0]) ?_
    exact Ev_neg (by omega) (Ev.now _)
  | c + 1, j, hj => by
    obtain ⟨x, hx⟩ := at_of (l := l) (j := j) (by omega)
    rw [drop_at hx, badE]
    have ih := pcheck_l l hl hn c (j + 1) (by omega)
    have hw : wrap64 ((j : Int) + 1) = ((j + 1 : Nat) : Int) := by rw [w64] <;> omega
    refine Ev.step (fun k => by rw [pool_Check.l0, hw, rdE (l := l) (i := (j : Int)) (x := x) (by omega) (by simpa using hx)]) (Ev_pos (by omega) (Ev_pos (by omega) (Ev_pos (by omega) (Ev.bind (wrong_f l hl x) ?_))))
    by_cases h : wrongS l x = 0
    · rw [if_pos h]; exact Ev_pos h ih
    · rw [if_neg h]; exact Ev_neg h (Ev.now _)
theorem pcheck_f (l : List En) (hl : Small l) : Ev (fun k => pool_Check.f k l) (pcheckS l) := by
  unfold pool_Check.f pcheckS
  by_cases h : 4096 < l.length
  · rw [if_pos h]; exact Ev_pos (by omega) (Ev.now _)
  · rw [if_neg h]
    have := pcheck_l l hl (by omega) l.length 0 (Nat.zero_add _)
    rw [List.drop_zero] at this
    exact Ev_neg (by omega) this
/-- Is nothing wrong with any entry? -/
def AllR (l : List En) : Prop := ∀ x ∈ l, wrongS l x = 0
theorem badE_ok (l : List En) : ∀ (r : List En) (i : Int), 0 ≤ i → (badE l i r).2 = 0 ∨ i ≤ (badE l i r).1
  | [], _, _ => .inl rfl
  | x :: r, i, h0 => by
    rw [badE]
    by_cases h : wrongS l x = 0
    · rw [if_pos h]
      rcases badE_ok l r (i + 1) (by omega) with h1 | h1
      · exact .inl h1
      · exact .inr (by omega)
    · rw [if_neg h]; exact .inr (Int.le_refl _)
theorem badE_0 (l : List En) : ∀ (r : List En) (i : Int), (badE l i r).2 = 0 ↔ ∀ x ∈ r, wrongS l x = 0
  | [], _ => by simp [badE]
  | x :: r, i => by
    rw [badE]
    by_cases h : wrongS l x = 0
    · rw [if_pos h, badE_0 l r]; simp [h]
    · rw [if_neg h]; simp [h]
theorem badE_1 (l : List En) : ∀ (r : List En) (i : Int), (badE l i r).2 = 0 → (badE l i r).1 = 0
  | [], _, _ => rfl
  | x :: r, i, h => by
    rw [badE] at h ⊢
    by_cases hw : wrongS l x = 0
    · rw [if_pos hw] at h ⊢; exact badE_1 l r _ h
    · rw [if_neg hw] at h; exact absurd h hw
theorem badE_app (l : List En) : ∀ (r s : List En) (i : Int), (∀ x ∈ r, wrongS l x = 0) → badE l i (r ++ s) = badE l (i + r.length) s
  | [], s, i, _ => by simp
  | x :: r, s, i, h => by
    rw [List.cons_append, badE, if_pos (h x (by simp)), badE_app l r s (i + 1) (fun y hy => h y (by simp [hy]))]
    congr 1
    simp only [List.length_cons]
    omega
theorem pcheck_ok {l : List En} (h : (pcheckS l).2 = 0) : AllR l ∧ l.length ≤ 4096 := by
  unfold pcheckS at h
  split at h
  · simp at h
  · exact ⟨(badE_0 l l 0).1 h, by omega⟩
theorem pcheck_of {l : List En} (h : AllR l) (hn : l.length ≤ 4096) : pcheckS l = (0, 0) := by
  unfold pcheckS
  rw [if_neg (by omega)]
  have h0 := (badE_0 l l 0).2 h
  exact Prod.ext (badE_1 l l 0 h0) h0
end Go.Proofs.YtldejfkplnejjaaDoor.Pure
