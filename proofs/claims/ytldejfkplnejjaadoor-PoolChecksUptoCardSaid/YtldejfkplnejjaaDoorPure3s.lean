/- Chapter 3 of the reference, plainly: what is wrong with an entry, and with a list of entries. -/
import Derived.Test.YtldejfkplnejjaaDoorPure3p
import Derived.Test.YtldejfkplnejjaaDoorPure3r
import Derived.Test.YtldejfkplnejjaaDoorP6
import Derived.Test.YtldejfkplnejjaaDoorP7
import Derived.Test.YtldejfkplnejjaaDoorP8
namespace Go.Proofs.YtldejfkplnejjaaDoor.Pure
open Go.RowKit Go.Proofs.YtldejfkplnejjaaDoor.P Go.Proofs.YtldejfkplnejjaaDoorW.PrintWords
set_option linter.unusedVariables false
theorem kindS_at {l : List En} {i w : Int} (h0 : 0 ≤ i) (h1 : i < l.length) : kindS l i w = if (rd_T50 l i).f0 = w then some (rd_T50 l i) else none := by
  obtain ⟨x, hx⟩ := at_of (l := l) (j := i.toNat) (by omega)
  unfold kindS
  rw [rdE h0 hx, if_pos h0, hx]
theorem ris_f (l : List En) (i w : Int) : keystoneref3_is.f l i w = some (kindS l i w).isSome := by
  unfold keystoneref3_is.f
  by_cases h0 : i ≥ 0
  · rw [if_pos h0]
    by_cases h1 : i < (l.length : Int)
    · rw [if_pos h1, if_pos h0, kindS_at h0 h1]
      by_cases h : (rd_T50 l i).f0 = w
      · rw [if_pos h]; simp [h]
      · rw [if_neg h]; simp [h]
    · rw [if_neg h1]; unfold kindS; rw [if_pos h0, List.getElem?_eq_none (by omega)]; rfl
  · rw [if_neg h0]; unfold kindS; rw [if_neg h0]; rfl
def rtextS (l : List En) (i w : Int) : Int := if w = 1 then namedS false l i else if w = 2 then namedS true l i else if w = 3 then typedS l i else signedS l i
theorem rtext_f (l : List En) (hl : Small l) (i w : Int) (hw : w = 1 ∨ w = 2 ∨ w = 3 ∨ w = 4) : Ev (fun k => keystoneref3_text.f k l i w) (rtextS l i w) := by
  unfold keystoneref3_text.f
  refine Ev_bindc (ris_f l i 1) ?_
  cases h : kindS l i 1 with
  | none =>
    refine Ev_neg (by simp) ?_
    rw [show rtextS l i w = 16 by unfold rtextS namedS typedS signedS; rw [h]; simp]
    exact Ev.now _
  | some x =>
    obtain ⟨hm, h0, h1, hx, _⟩ := kindS_in h
    have hs := hl x hm
    refine Ev_pos rfl (Ev_pos h0 (Ev_pos h1 ?_))
    rw [rdE h0 hx]
    unfold rtextS namedS typedS signedS
    rw [h]
    simp only
    have hn : ∀ (f : Nat → Option Bool) (b : Bool), Ev f b → Ev (fun k => (f k).bind fun t => if t = true then some (0 : Int) else some 14) (if b = true then 0 else 14) := fun f b hb => by
      refine Ev.bind hb ?_
      cases b with
      | true => exact Ev_pos rfl (Ev.now _)
      | false => exact Ev_neg Bool.false_ne_true (Ev.now _)
    by_cases w1 : w = 1
    · rw [if_pos w1]; exact Ev_pos w1 (by simpa using hn _ _ (rname_f x.f1 (by omega)))
    refine Ev_neg w1 ?_
    rw [if_neg w1]
    by_cases w2 : w = 2
    · rw [if_pos w2]; exact Ev_pos w2 (by simpa using hn _ _ (rmethod_f x.f1 (by omega)))
    refine Ev_neg w2 ?_
    rw [if_neg w2]
    by_cases w3 : w = 3
    · rw [if_pos w3]; exact Ev_pos w3 (Ev.bind (rtype_f x.f1 (by omega)) (Ev.now _))
    refine Ev_neg w3 ?_
    rw [if_neg w3]
    exact Ev_pos (by omega) (Ev.bind (rsig_f x.f1 (by omega)) (Ev.now _))
theorem rwrong_j3 (l : List En) (hl : Small l) (x : En) (m : Bool) : Ev (fun k => keystoneref3_Wrong.j3 k l (if m = true then 2 else 1) (if m = true then 4 else 3) x.f0 x.f1 x.f2 x.f3 x.f4 x.f5) (if namedS m l x.f4 = 0 then (if m = true then signedS l x.f5 else typedS l x.f5) else namedS m l x.f4) := by
  refine Ev.step (fun k => by rw [keystoneref3_Wrong.j3]) ?_
  have h1 := rtext_f l hl x.f4 (if m = true then 2 else 1) (by cases m <;> simp)
  have h2 := rtext_f l hl x.f5 (if m = true then 4 else 3) (by cases m <;> simp)
  have e1 : rtextS l x.f4 (if m = true then 2 else 1) = namedS m l x.f4 := by cases m <;> simp [rtextS]
  have e2 : rtextS l x.f5 (if m = true then 4 else 3) = if m = true then signedS l x.f5 else typedS l x.f5 := by cases m <;> simp [rtextS]
  rw [e1] at h1
  rw [e2] at h2
  refine Ev.bind h1 ?_
  by_cases h : namedS m l x.f4 = 0
  · rw [if_pos h]; exact Ev_pos h (Ev.bind h2 (Ev.now _))
  · rw [if_neg h]; exact Ev_neg h (Ev.now _)
theorem rwrong_j2 (l : List En) (hl : Small l) (x : En) (b : Bool) (hb : b = decide (x.f0 = 5 ∨ x.f0 = 6)) (h1 : x.f0 ≠ 1) (h3 : x.f0 ≠ 3) (h4 : x.f0 ≠ 4) (h0 : 1 ≤ x.f0 ∧ x.f0 ≤ 6) : Ev (fun k => keystoneref3_Wrong.j2 k l x.f0 b x.f0 x.f1 x.f2 x.f3 x.f4 x.f5) (usesS l x) := by
  refine Ev.step (fun k => by rw [keystoneref3_Wrong.j2]) ?_
  unfold usesS
  rw [if_neg h1]
  by_cases h2 : x.f0 = 2
  · rw [if_pos h2, hb, decide_eq_false (by omega)]; exact Ev_neg Bool.false_ne_true (Ev.now _)
  rw [if_neg h2, if_neg h3, if_neg h4, hb, decide_eq_true (by omega)]
  refine Ev_pos rfl (Ev_bindc (ris_f l x.f3 3) ?_)
  cases h : kindS l x.f3 3 with
  | none => exact Ev_neg (by simp) (Ev.now _)
  | some c =>
    refine Ev_pos rfl ?_
    simp only
    by_cases h6 : x.f0 = 6
    · rw [if_pos h6]; exact Ev_pos h6 (by simpa using rwrong_j3 l hl x true)
    · rw [if_neg h6]; exact Ev_neg h6 (by simpa using rwrong_j3 l hl x false)
theorem rwrong_j1 (l : List En) (hl : Small l) (x : En) (h0 : 1 ≤ x.f0 ∧ x.f0 ≤ 6) (y : Bool) (hy : y = true ↔ ¬ clean x) : Ev (fun k => keystoneref3_Wrong.j1 k l x.f0 y x.f0 x.f1 x.f2 x.f3 x.f4 x.f5) (wrongS l x) := by
  refine Ev.step (fun k => by rw [keystoneref3_Wrong.j1]) ?_
  have e : wrongS l x = if clean x then usesS l x else 1 := by unfold wrongS; rw [if_neg (by omega)]
  rw [e]
  by_cases hc : clean x
  · rw [if_pos hc]
    refine Ev_neg (fun h => (hy.1 h) hc) ?_
    by_cases h1 : x.f0 = 1
    · have e : usesS l x = if (x.f1.size : Int) > 255 then 5 else 0 := by unfold usesS; rw [if_pos h1]
      rw [e]
      exact Ev_pos h1 (Ev_ite (fun h => by rw [if_pos h]; exact Ev.now _) (fun h => by rw [if_neg h]; exact Ev.now _))
    refine Ev_neg h1 ?_
    by_cases h3 : x.f0 = 3
    · have e : usesS l x = namedS false l x.f3 := by unfold usesS; rw [if_neg h1, if_neg (by omega), if_pos h3]
      rw [e]
      exact Ev_pos h3 (Ev.bind (by simpa [rtextS] using rtext_f l hl x.f3 1 (by simp)) (Ev.now _))
    refine Ev_neg h3 ?_
    by_cases h4 : x.f0 = 4
    · have e : usesS l x = typedS l x.f3 := by unfold usesS; rw [if_neg h1, if_neg (by omega), if_neg h3, if_pos h4]
      rw [e]
      exact Ev_pos h4 (Ev.bind (by simpa [rtextS] using rtext_f l hl x.f3 3 (by simp)) (Ev.now _))
    refine Ev_neg h4 ?_
    by_cases h5 : x.f0 = 5
    · exact Ev_pos h5 (rwrong_j2 l hl x _ (by simp [h5]) h1 h3 h4 h0)
    · exact Ev_neg h5 (rwrong_j2 l hl x _ (by rw [Bool.eq_iff_iff]; simp [h5]) h1 h3 h4 h0)
  · rw [if_neg hc]; exact Ev_pos (hy.2 hc) (Ev.now _)
theorem rwrong_j0 (l : List En) (hl : Small l) (x : En) (b : Bool) (hb : b = decide (x.f0 < 1 ∨ 6 < x.f0)) : Ev (fun k => keystoneref3_Wrong.j0 k l x.f0 b x.f0 x.f1 x.f2 x.f3 x.f4 x.f5) (wrongS l x) := by
  refine Ev.step (fun k => by rw [keystoneref3_Wrong.j0]) ?_
  by_cases h : x.f0 < 1 ∨ 6 < x.f0
  · rw [hb, decide_eq_true h]
    unfold wrongS
    rw [if_pos h]
    exact Ev_pos rfl (Ev.now _)
  rw [hb, decide_eq_false h]
  refine Ev_neg Bool.false_ne_true ?_
  have h0 : 1 ≤ x.f0 ∧ x.f0 ≤ 6 := by omega
  have go := rwrong_j1 l hl x h0
  have hc : clean x ↔ (x.f0 ≠ 1 → x.f1.toList = ([] : List UInt8)) ∧ (x.f0 ≠ 2 → x.f2 = 0) ∧ (x.f0 < 3 → x.f3 = 0) ∧ (x.f0 < 5 → x.f4 = 0 ∧ x.f5 = 0) := by
    unfold clean
    rw [toList_LL]
    constructor
    · rintro ⟨a, b, c, d⟩; exact ⟨a, b, fun h => c (by omega), fun h => d (by omega)⟩
    · rintro ⟨a, b, c, d⟩; exact ⟨a, b, fun h => c (by omega), fun h => d (by omega)⟩
  simp only [hc] at go
  clear hc
  repeat' (refine Ev_ite (fun _ => ?_) (fun _ => ?_))
  all_goals refine go _ ?_
  all_goals (try (exfalso; omega))
  all_goals grind
theorem rwrong_f (l : List En) (hl : Small l) (j : Nat) (x : En) (hx : l[j]? = some x) : Ev (fun k => keystoneref3_Wrong.f k l (j : Int)) (wrongS l x) := by
  have hj := (List.getElem?_eq_some_iff.1 hx).1
  unfold keystoneref3_Wrong.f
  rw [rdE (l := l) (i := (j : Int)) (x := x) (by omega) (by simpa using hx)]
  refine Ev_pos (by omega) (Ev_pos (by omega) ?_)
  by_cases h : x.f0 < 1
  · exact Ev_pos h (rwrong_j0 l hl x true (by rw [decide_eq_true (.inl h)]))
  · exact Ev_neg h (rwrong_j0 l hl x _ (by rw [Bool.eq_iff_iff]; simp; omega))
theorem rcheck_l (l : List En) (hl : Small l) (hn : l.length ≤ 4096) : ∀ (c j : Nat), j + c = l.length → Ev (fun k => keystoneref3_Check.l0 k l (j : Int)) (badE l (j : Int) (l.drop j))
  | 0, j, hj => by
    rw [List.drop_of_length_le (by omega)]
    refine Ev.step (fun k => by rw [keystoneref3_Check.l0]) ?_
    exact Ev_neg (by omega) (Ev.now _)
  | c + 1, j, hj => by
    obtain ⟨x, hx⟩ := at_of (l := l) (j := j) (by omega)
    rw [drop_at hx, badE]
    have ih := rcheck_l l hl hn c (j + 1) (by omega)
    have hw : wrap64 ((j : Int) + 1) = ((j + 1 : Nat) : Int) := by rw [w64] <;> omega
    refine Ev.step (fun k => by rw [keystoneref3_Check.l0, hw]) (Ev_pos (by omega) (Ev.bind (rwrong_f l hl j x hx) ?_))
    by_cases h : wrongS l x = 0
    · rw [if_pos h]; exact Ev_pos h ih
    · rw [if_neg h]; exact Ev_neg h (Ev.now _)
theorem rcheck_f (l : List En) (hl : Small l) : Ev (fun k => keystoneref3_Check.f k l) (pcheckS l) := by
  unfold keystoneref3_Check.f pcheckS
  by_cases h : 4096 < l.length
  · rw [if_pos h]; exact Ev_pos (by omega) (Ev.now _)
  · rw [if_neg h]
    have := rcheck_l l hl (by omega) l.length 0 (Nat.zero_add _)
    rw [List.drop_zero] at this
    exact Ev_neg (by omega) this
theorem same_l (l : List En) (hn : l.length ≤ 9000000000000) : ∀ (c j : Nat), j + c = l.length → Ev (fun k => keystonelaw3_Same.l0 k l l (j : Int)) true
  | 0, j, hj => by
    refine Ev.step (fun k => by rw [keystonelaw3_Same.l0]) ?_
    exact Ev_neg (by omega) (Ev.now _)
  | c + 1, j, hj => by
    have ih := same_l l hn c (j + 1) (by omega)
    have hw : wrap64 ((j : Int) + 1) = ((j + 1 : Nat) : Int) := by rw [w64] <;> omega
    refine Ev.step (fun k => by rw [keystonelaw3_Same.l0, hw]) (Ev_pos (by omega) (Ev_pos (by omega) (Ev_pos (by omega) (Ev_neg (by simp) ih))))
theorem same_f (l : List En) (hn : l.length ≤ 9000000000000) : Ev (fun k => keystonelaw3_Same.f k l l) true := by
  unfold keystonelaw3_Same.f
  exact Ev_pos rfl (same_l l hn l.length 0 (Nat.zero_add _))
end Go.Proofs.YtldejfkplnejjaaDoor.Pure
