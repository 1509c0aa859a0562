/- Chapter 4, plainly: what the program's instr and the document's answer compute: sizes, writing, reading. -/
import Derived.Test.YtndpdelkhmaliaaDoorPureA
import Derived.Test.YtndpdelkhmaliaaDoorP2
import Derived.Test.YtndpdelkhmaliaaDoorP3
import Derived.Test.YtndpdelkhmaliaaDoorP4
namespace Go.Proofs.YtndpdelkhmaliaaDoor.Pure
open Go.RowKit Go.Proofs.YtndpdelkhmaliaaDoor.P Go.Proofs.YtndpdelkhmaliaaDoorW.PrintWords
set_option linter.unusedVariables false

/-! ### sizes -/
def size (op : Int) : Int := if op < 0 ∨ 45 < op then 0 else if op = 3 ∨ op = 4 then 2 else if op = 1 ∨ (19 ≤ op ∧ op ≤ 30) ∨ (36 ≤ op ∧ op ≤ 41) then 3 else 1
theorem jumps_f (a : Int) : instr_jumps.f a = some (decide (19 ≤ a ∧ a ≤ 24)) := by
  unfold instr_jumps.f
  split <;> simp <;> omega
theorem rjumps_f (a : Int) : keystoneref4_Jumps.f a = some (decide (19 ≤ a ∧ a ≤ 24)) := by
  unfold keystoneref4_Jumps.f
  split <;> simp <;> omega
theorem wide_f (a : Int) : instr_wide.f a = some (decide (a = 1 ∨ (19 ≤ a ∧ a ≤ 30) ∨ (36 ≤ a ∧ a ≤ 41))) := by
  unfold instr_wide.f
  rw [jumps_f]
  simp only [Option.bind_some]
  by_cases h : a = 1 ∨ (19 ≤ a ∧ a ≤ 30) ∨ (36 ≤ a ∧ a ≤ 41)
  · rw [decide_eq_true h]
    by_cases h2 : 19 ≤ a ∧ a ≤ 24
    · rw [decide_eq_true h2]; simp only [ite_self]
    · have h3 : a = 1 ∨ a = 25 ∨ a = 26 ∨ a = 27 ∨ a = 28 ∨ a = 29 ∨ a = 30 ∨ a = 36 ∨ a = 37 ∨ a = 38 ∨ a = 39 ∨ a = 40 ∨ a = 41 := by omega
      rcases h3 with rfl | rfl | rfl | rfl | rfl | rfl | rfl | rfl | rfl | rfl | rfl | rfl | rfl <;> rfl
  · rw [decide_eq_false h, decide_eq_false (show ¬ (19 ≤ a ∧ a ≤ 24) by omega)]
    rw [if_neg (by omega), if_neg (by omega), if_neg (by omega), if_neg (by omega), if_neg (by omega), if_neg (by omega), if_neg (by omega), if_neg (by omega), if_neg (by omega), if_neg (by omega), if_neg (by omega), if_neg (by omega), if_neg (by omega)]
theorem size_f (op : Int) : Ev (fun k => instr_Size.f k op) (size op) := by
  refine Ev_at 1 (fun m => ?_)
  simp only [instr_Size.f, instr_Size.j0, wide_f, Option.bind_some]
  unfold size
  by_cases h0 : op < 0 <;> by_cases h1 : 45 < op <;> by_cases h2 : op = 1 ∨ (19 ≤ op ∧ op ≤ 30) ∨ (36 ≤ op ∧ op ≤ 41) <;> by_cases h3 : op = 3 <;> by_cases h4 : op = 4
  all_goals first | (exfalso; omega) | (simp [h0, h1, h2, h3, h4, wrap64]; done)
theorem rsize_j1 (m : Nat) (op : Int) (b : Bool) : keystoneref4_Size.j1 (m + 1) op b = some (if b = true then 2 else if op = 1 ∨ (19 ≤ op ∧ op ≤ 30) ∨ (36 ≤ op ∧ op ≤ 41) then 3 else 1) := by
  rw [keystoneref4_Size.j1, rjumps_f]
  simp only [Option.bind_some]
  cases b with
  | true => rw [if_pos rfl, if_pos rfl]
  | false =>
    rw [if_neg Bool.false_ne_true, if_neg Bool.false_ne_true]
    by_cases h1 : op = 1
    · rw [if_pos h1, if_pos (.inl h1)]
    rw [if_neg h1]
    by_cases h2 : 19 ≤ op ∧ op ≤ 24
    · rw [decide_eq_true h2, if_pos rfl, if_pos (by omega)]
    rw [decide_eq_false h2, if_neg Bool.false_ne_true]
    by_cases h3 : op ≥ 25
    · rw [if_pos h3]
      by_cases h4 : op ≤ 30
      · rw [if_pos h4, if_pos (by omega)]
      rw [if_neg h4]
      by_cases h5 : op ≥ 36
      · rw [if_pos h5]
        by_cases h6 : op ≤ 41
        · rw [if_pos h6, if_pos (by omega)]
        · rw [if_neg h6, if_neg (by omega)]
      · rw [if_neg h5, if_neg (by omega)]
    · rw [if_neg h3, if_neg (by omega), if_neg (by omega)]
theorem rsize_f (op : Int) : Ev (fun k => keystoneref4_Size.f k op) (size op) := by
  refine Ev_at 2 (fun m => ?_)
  unfold keystoneref4_Size.f size
  have j0 : ∀ b : Bool, keystoneref4_Size.j0 (m + 2) op b = some (if b = true then 0 else if op = 3 ∨ op = 4 then 2 else if op = 1 ∨ (19 ≤ op ∧ op ≤ 30) ∨ (36 ≤ op ∧ op ≤ 41) then 3 else 1) := fun b => by
    rw [keystoneref4_Size.j0, rsize_j1, rsize_j1]
    cases b with
    | true => rw [if_pos rfl, if_pos rfl]
    | false =>
      rw [if_neg Bool.false_ne_true, if_neg Bool.false_ne_true, if_pos rfl]
      by_cases h3 : op = 3
      · rw [if_pos h3, if_pos (.inl h3)]
      rw [if_neg h3]
      by_cases h4 : op = 4
      · rw [show (op == 4) = true by simp [h4], if_pos rfl, if_pos (.inr h4)]
      · rw [show (op == 4) = false by simp [h4], if_neg Bool.false_ne_true, if_neg (show ¬ (op = 3 ∨ op = 4) by omega)]
  by_cases h0 : op < 0
  · rw [if_pos h0, j0, if_pos rfl, if_pos (.inl h0)]
  rw [if_neg h0, j0]
  by_cases h1 : op > 45
  · rw [decide_eq_true h1, if_pos rfl, if_pos (show op < 0 ∨ 45 < op from .inr h1)]
  · rw [decide_eq_false h1, if_neg Bool.false_ne_true, if_neg (show ¬ (op < 0 ∨ 45 < op) by omega)]
theorem size_le (op : Int) : 0 ≤ size op ∧ size op ≤ 3 := by
  unfold size
  repeat' split
  all_goals omega

/-! ### writing -/
def lim (s : Int) : Int := if s = 1 then 1 else if s = 2 then 256 else 65536
def codeOf (i : S38) : List Int := [i.f1 % 256] ++ (if size i.f1 = 3 then [i.f2 / 256 % 256] else []) ++ (if size i.f1 > 1 then [i.f2 % 256] else [])
def encS : List Int → List S38 → List Int × Int
  | acc, [] => (acc, 0)
  | acc, i :: l => if size i.f1 = 0 then ([], 17) else if i.f2 < 0 ∨ lim (size i.f1) ≤ i.f2 then ([], 1) else encS (acc ++ codeOf i) l
theorem codeOf_le (i : S38) : (codeOf i).length ≤ 3 := by
  unfold codeOf
  simp only [List.length_append, List.length_cons, List.length_nil]
  split <;> split <;> simp
theorem shl_lim (s : Int) (h0 : s ≠ 0) (h : 0 ≤ s ∧ s ≤ 3) : 0 ≤ wrap64 (8 * wrap64 (s - 1)) ∧ shl .i64 1 (wrap64 (8 * wrap64 (s - 1))) = lim s := by
  have h3 : s = 1 ∨ s = 2 ∨ s = 3 := by omega
  rcases h3 with rfl | rfl | rfl <;> decide +kernel
theorem enc_f (l : List S38) (hl : l.length ≤ 2000000) : ∀ (d : Nat) (acc : List Int) (j : Nat), j + d = l.length → acc.length ≤ 3 * j →
    Ev (fun k => instr_Encode.l0 k acc l (l.length : Int) (j : Int)) (encS acc (l.drop j))
  | 0, acc, j, hj, ha => by
    refine Ev.step (fun k => by rw [instr_Encode.l0]) ?_
    rw [List.drop_of_length_le (by omega)]
    exact Ev_neg (by omega) (Ev.now _)
  | d + 1, acc, j, hj, ha => by
    obtain ⟨x, hx⟩ := at_of (l := l) (j := j) (by omega)
    have hr : rd_T38 l (j : Int) = x := getD_at rfl hx
    have ih := enc_f l hl d (acc ++ codeOf x) (j + 1) (by omega) (by have := codeOf_le x; rw [List.length_append]; omega)
    rw [drop_at hx]
    refine Ev.step (fun k => by rw [instr_Encode.l0]) ?_
    simp only [hr]
    refine Ev_pos (by omega) (Ev_pos (by omega) (Ev_pos (by omega) (Ev.bind (size_f _) ?_)))
    simp only [encS]
    by_cases h0 : size x.f1 = 0
    · rw [if_pos h0]; exact Ev_pos h0 (Ev.now _)
    obtain ⟨hs0, hs1⟩ := shl_lim (size x.f1) h0 (size_le _)
    rw [if_neg h0]
    refine Ev_neg h0 ?_
    have hw : wrap64 ((j : Int) + 1) = ((j + 1 : Nat) : Int) := by rw [w64] <;> omega
    have bad : ∀ b0 b1 b2 b3 b4 b5 : Int, Ev (fun k => instr_Encode.j1 k acc b0 l b1 b2 true x.f0 x.f1 x.f2 x.f3) (([], 1) : List Int × Int) := fun _ _ _ _ _ _ => by
      refine Ev.step (fun k => by rw [instr_Encode.j1]) ?_
      exact Ev_pos rfl (Ev.now _)
    by_cases hn : x.f2 < 0
    · rw [if_pos (.inl hn)]
      exact Ev_pos hn (bad _ _ _ 0 0 0)
    refine Ev_neg hn (Ev_pos hs0 ?_)
    rw [hs1]
    by_cases hm : lim (size x.f1) ≤ x.f2
    · rw [if_pos (.inr hm), decide_eq_true (show x.f2 ≥ lim (size x.f1) from hm)]
      exact bad _ _ _ 0 0 0
    rw [if_neg (by omega), decide_eq_false (show ¬ x.f2 ≥ lim (size x.f1) from hm)]
    refine Ev.step (fun k => by rw [instr_Encode.j1]) ?_
    refine Ev_neg (by simp) (Ev_pos (by omega) (Ev_some ?_))
    rw [hw]
    unfold codeOf at ih
    by_cases h3 : size x.f1 = 3
    · rw [if_pos h3, if_pos (by omega)] at ih
      refine Ev_pos h3 (Ev_pos (by simp; omega) (Ev_some (Ev_pos (by omega) (Ev_pos (by simp; omega) ?_))))
      simpa [codeOf, h3, List.append_assoc] using ih
    · rw [if_neg h3] at ih
      refine Ev_neg h3 (Ev_ite (fun h1 => ?_) (fun h1 => ?_))
      · rw [if_pos h1] at ih
        refine Ev_pos (by simp; omega) ?_
        simpa [codeOf, h3, h1, List.append_assoc] using ih
      · rw [if_neg h1] at ih
        simpa [codeOf, h3, h1, List.append_assoc] using ih
theorem encode_f (l : List S38) (hl : l.length ≤ 2000000) : Ev (fun k => instr_Encode.f k l) (encS [] l) := enc_f l hl l.length [] 0 (by omega) (by simp)
theorem renc_f (l : List S38) (hl : l.length ≤ 2000000) : ∀ (d : Nat) (acc : List Int) (j : Nat), j + d = l.length → acc.length ≤ 3 * j →
    Ev (fun k => keystoneref4_Encode.l0 k l acc (j : Int)) (encS acc (l.drop j))
  | 0, acc, j, hj, ha => by
    refine Ev.step (fun k => by rw [keystoneref4_Encode.l0]) ?_
    rw [List.drop_of_length_le (by omega)]
    exact Ev_neg (by omega) (Ev.now _)
  | d + 1, acc, j, hj, ha => by
    obtain ⟨x, hx⟩ := at_of (l := l) (j := j) (by omega)
    have hr : rd_T38 l (j : Int) = x := getD_at rfl hx
    have ih := renc_f l hl d (acc ++ codeOf x) (j + 1) (by omega) (by have := codeOf_le x; rw [List.length_append]; omega)
    rw [drop_at hx]
    refine Ev.step (fun k => by rw [keystoneref4_Encode.l0]) ?_
    simp only [hr]
    refine Ev_pos (by omega) (Ev_pos (by omega) (Ev.bind (rsize_f _) ?_))
    simp only [encS]
    by_cases h0 : size x.f1 = 0
    · rw [if_pos h0]; exact Ev_pos h0 (Ev.now _)
    obtain ⟨hs0, hs1⟩ := shl_lim (size x.f1) h0 (size_le _)
    rw [if_neg h0]
    refine Ev_neg h0 ?_
    have hw : wrap64 ((j : Int) + 1) = ((j + 1 : Nat) : Int) := by rw [w64] <;> omega
    have bad : ∀ b0 b1 : Int, Ev (fun k => keystoneref4_Encode.j1 k l acc b0 b1 true) (([], 1) : List Int × Int) := fun _ _ => by
      refine Ev.step (fun k => by rw [keystoneref4_Encode.j1]) ?_
      exact Ev_pos rfl (Ev.now _)
    by_cases hn : x.f2 < 0
    · rw [if_pos (.inl hn)]
      exact Ev_pos hn (bad _ _)
    refine Ev_neg hn (Ev_pos hs0 ?_)
    rw [hs1]
    by_cases hm : lim (size x.f1) ≤ x.f2
    · rw [if_pos (.inr hm), decide_eq_true (show x.f2 ≥ lim (size x.f1) from hm)]
      exact bad _ _
    rw [if_neg (by omega), decide_eq_false (show ¬ x.f2 ≥ lim (size x.f1) from hm)]
    refine Ev.step (fun k => by rw [keystoneref4_Encode.j1]) ?_
    simp only [hr]
    refine Ev_neg (by simp) (Ev_pos (by omega) (Ev_pos (by omega) (Ev_pos (by omega) (Ev_some ?_))))
    rw [hw]
    unfold codeOf at ih
    by_cases h3 : size x.f1 = 3
    · rw [if_pos h3, if_pos (by omega)] at ih
      refine Ev_pos h3 (Ev_pos (by simp; omega) (Ev_some (Ev_pos (by omega) (Ev_pos (by simp; omega) ?_))))
      simpa [codeOf, h3, List.append_assoc] using ih
    · rw [if_neg h3] at ih
      refine Ev_neg h3 (Ev_ite (fun h1 => ?_) (fun h1 => ?_))
      · rw [if_pos h1] at ih
        refine Ev_pos (by simp; omega) ?_
        simpa [codeOf, h3, h1, List.append_assoc] using ih
      · rw [if_neg h1] at ih
        simpa [codeOf, h3, h1, List.append_assoc] using ih
theorem rencode_f (l : List S38) (hl : l.length ≤ 2000000) : Ev (fun k => keystoneref4_Encode.f k l) (encS [] l) := renc_f l hl l.length [] 0 (by omega) (by simp)

/-! ### the same instructions -/
theorem same_f (a b : List S38) (hab : a.length = b.length) (ha : a.length ≤ 2000000) : ∀ (d j : Nat), j + d = a.length → (∀ i x y, j ≤ i → a[i]? = some x → b[i]? = some y → x = y) →
    Ev (fun k => keystonelaw4_Same.l0 k a b (j : Int)) true
  | 0, j, hj, h => by
    refine Ev.step (fun k => by rw [keystonelaw4_Same.l0]) ?_
    exact Ev_neg (by omega) (Ev.now _)
  | d + 1, j, hj, h => by
    obtain ⟨x, hx⟩ := at_of (l := a) (j := j) (by omega)
    obtain ⟨y, hy⟩ := at_of (l := b) (j := j) (by omega)
    obtain rfl := h j x y (Nat.le_refl _) hx hy
    have hr : rd_T38 a (j : Int) = x := getD_at rfl hx
    have hr' : rd_T38 b (j : Int) = x := getD_at rfl hy
    refine Ev.step (fun k => by rw [keystonelaw4_Same.l0]) ?_
    simp only [hr, hr']
    refine Ev_pos (by omega) (Ev_pos (by omega) (Ev_pos (by omega) (Ev_neg (by simp) ?_)))
    rw [show wrap64 ((j : Int) + 1) = ((j + 1 : Nat) : Int) by rw [w64] <;> omega]
    exact same_f a b hab ha d (j + 1) (by omega) (fun i x y hi => h i x y (by omega))
theorem same_self (a : List S38) (ha : a.length ≤ 2000000) : Ev (fun k => keystonelaw4_Same.f k a a) true := by
  unfold keystonelaw4_Same.f
  refine Ev_pos rfl (same_f a a rfl ha a.length 0 (by omega) (fun i x y _ hx hy => ?_))
  rw [hx] at hy
  exact Option.some.inj hy
end Go.Proofs.YtndpdelkhmaliaaDoor.Pure
