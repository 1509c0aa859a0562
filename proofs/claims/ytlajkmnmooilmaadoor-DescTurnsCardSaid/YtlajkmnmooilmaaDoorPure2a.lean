/- Chapter 2, plainly: names, and what a type is. -/
import Derived.Test.YtlajkmnmooilmaaDoorPureA
import Derived.Test.YtlajkmnmooilmaaDoorP2
import Derived.Test.YtlajkmnmooilmaaDoorP3
import Derived.Test.YtlajkmnmooilmaaDoorP5
namespace Go.Proofs.YtlajkmnmooilmaaDoor.Pure
open Go.RowKit Go.Proofs.YtlajkmnmooilmaaDoor.P Go.Proofs.YtlajkmnmooilmaaDoorW.PrintWords
set_option linter.unusedVariables false

/-! ### texts as lists -/
def LL (s : ByteArray) : List UInt8 := s.data.toList
theorem LL_length (s : ByteArray) : (LL s).length = s.size := by simp [LL]
theorem LL_inj {a b : ByteArray} (h : LL a = LL b) : a = b := by
  cases a; cases b; simpa [LL] using h
theorem toList_LL (s : ByteArray) : s.toList = LL s := ByteArray.toList_eq s
theorem bt_of {s : ByteArray} {j : Nat} {c : UInt8} (h : (LL s)[j]? = some c) : bt s (j : Int) = (c.toNat : Int) := by
  obtain ⟨hj, rfl⟩ := List.getElem?_eq_some_iff.1 h
  rw [LL_length] at hj
  unfold bt
  rw [dif_pos (by simpa using hj)]
  rfl
theorem LL_append (a b : ByteArray) : LL (a ++ b) = LL a ++ LL b := by simp [LL]
theorem LL_extract (s : ByteArray) (i j : Nat) : LL (s.extract i j) = ((LL s).take j).drop i := by
  simp [LL, ByteArray.data_extract, Array.toList_extract, List.drop_take]

/-! ### names -/
def letterS (c : Int) (first : Bool) : Bool := decide ((97 ≤ c ∧ c ≤ 122) ∨ (65 ≤ c ∧ c ≤ 90) ∨ c = 95) || (!first && decide (48 ≤ c ∧ c ≤ 57))
theorem letterS_t {c : Int} {f : Bool} (h : (97 ≤ c ∧ c ≤ 122) ∨ (65 ≤ c ∧ c ≤ 90) ∨ c = 95) : letterS c f = true := by unfold letterS; rw [decide_eq_true h]; rfl
theorem letterS_d {c : Int} (h : 48 ≤ c ∧ c ≤ 57) : letterS c false = true := by unfold letterS; rw [decide_eq_true h]; simp
theorem letterS_n {c : Int} {f : Bool} (h : ¬ ((97 ≤ c ∧ c ≤ 122) ∨ (65 ≤ c ∧ c ≤ 90) ∨ c = 95)) (h' : f = true ∨ ¬ (48 ≤ c ∧ c ≤ 57)) : letterS c f = false := by
  unfold letterS
  rw [decide_eq_false h]
  rcases h' with rfl | h'
  · rfl
  · rw [decide_eq_false h']; simp
theorem letter_f (c : Int) (b : Bool) : desc_letter.f c b = some (letterS c b) := by
  by_cases h : (97 ≤ c ∧ c ≤ 122) ∨ (65 ≤ c ∧ c ≤ 90) ∨ c = 95
  · rw [letterS_t h]
    unfold desc_letter.f
    repeat' split
    all_goals first | rfl | (exfalso; omega)
  · cases b with
    | true =>
      rw [letterS_n h (.inl rfl)]
      unfold desc_letter.f
      repeat' split
      all_goals first | rfl | (exfalso; omega) | (exfalso; simp_all; done)
    | false =>
      have e : letterS c false = decide (48 ≤ c ∧ c ≤ 57) := by unfold letterS; rw [decide_eq_false h]; simp
      rw [e]
      unfold desc_letter.f
      repeat' split
      all_goals first | (exfalso; omega) | (exfalso; simp_all; done) | (congr 1; simp; omega)
def allL : Bool → List UInt8 → Bool
  | _, [] => true
  | f, c :: l => letterS (c.toNat : Int) f && allL false l
def nmL (l : List UInt8) : Bool := allL true l && (decide (l ≠ []) && decide (l.length ≤ 32))
def nm (s : ByteArray) : Bool := nmL (LL s)
theorem dname_l (s : ByteArray) (hs : s.size ≤ 140737488355328) : ∀ (d j : Nat), j + d = s.size →
    Ev (fun k => desc_Name.l0 k s (s.size : Int) (j : Int)) (allL (decide (j = 0)) ((LL s).drop j) && (decide (LL s ≠ []) && decide ((LL s).length ≤ 32)))
  | 0, j, hj => by
    refine Ev.step (fun k => by rw [desc_Name.l0]) (Ev_neg (by omega) ?_)
    rw [List.drop_of_length_le (by rw [LL_length]; omega), toList_LL, LL_length]
    refine Ev_ite (fun h => Ev_const ?_) (fun h => Ev_const ?_)
    · rw [h]; rfl
    · simp [allL, h]; omega
  | d + 1, j, hj => by
    obtain ⟨c, hc⟩ := at_of (l := LL s) (j := j) (by rw [LL_length]; omega)
    rw [drop_at hc]
    refine Ev.step (fun k => by rw [desc_Name.l0]) (Ev_pos (by omega) (Ev_pos (by omega) (Ev_pos (by omega) (Ev_bindc (letter_f _ _) ?_))))
    rw [bt_of hc, show ((j : Int) == 0) = decide (j = 0) by by_cases h : j = 0 <;> simp [h]]
    rw [allL]
    by_cases hl : letterS (c.toNat : Int) (decide (j = 0)) = true
    · rw [hl, Bool.true_and]
      refine Ev_pos rfl ?_
      rw [show wrap64 ((j : Int) + 1) = ((j + 1 : Nat) : Int) by rw [w64] <;> omega]
      have ih := dname_l s hs d (j + 1) (by omega)
      rwa [show decide (j + 1 = 0) = false by simp] at ih
    · rw [Bool.not_eq_true] at hl
      rw [hl]
      exact Ev_neg Bool.false_ne_true (Ev.now _)
theorem dname_f (s : ByteArray) (hs : s.size ≤ 140737488355328) : Ev (fun k => desc_Name.f k s) (nm s) := by
  have h := dname_l s hs s.size 0 (Nat.zero_add _)
  rwa [show decide (0 = 0) = true from rfl, List.drop_zero] at h
theorem rname_l (s : ByteArray) (hs : s.size ≤ 140737488355328) : ∀ (d j : Nat), j + d = s.size →
    Ev (fun k => keystoneref2_Name.l0 k s (j : Int)) (allL (decide (j = 0)) ((LL s).drop j))
  | 0, j, hj => by
    refine Ev.step (fun k => by rw [keystoneref2_Name.l0]) (Ev_neg (by omega) ?_)
    rw [List.drop_of_length_le (by rw [LL_length]; omega)]
    exact Ev.now _
  | d + 1, j, hj => by
    obtain ⟨c, hc⟩ := at_of (l := LL s) (j := j) (by rw [LL_length]; omega)
    rw [drop_at hc, allL]
    have hb := bt_of hc
    have ih := rname_l s hs d (j + 1) (by omega)
    rw [show decide (j + 1 = 0) = false by simp] at ih
    generalize (c.toNat : Int) = b at hb
    refine Ev.step (fun k => by rw [keystoneref2_Name.l0, hb, show wrap64 ((j : Int) + 1) = ((j + 1 : Nat) : Int) by rw [w64] <;> omega]) (Ev_pos (by omega) (Ev_pos (by omega) ?_))
    by_cases h : (97 ≤ b ∧ b ≤ 122) ∨ (65 ≤ b ∧ b ≤ 90) ∨ b = 95
    · rw [letterS_t h, Bool.true_and]
      refine Ev_ite (fun h1 => Ev_ite (fun h2 => ih) (fun h2 => Ev_ite (fun h3 => Ev_ite (fun h4 => ih) (fun h4 => ?_)) (fun h3 => Ev_pos (by omega) ih))) (fun h1 => Ev_ite (fun h3 => Ev_ite (fun h4 => ih) (fun h4 => ?_)) (fun h3 => Ev_pos (by omega) ih))
      all_goals exfalso; omega
    · have rest : Ev (fun k => if b ≥ 48 then (if b ≤ 57 then (if (j : Int) > 0 then (keystoneref2_Name.l0 k s ((j + 1 : Nat) : Int)) else (some false)) else (some false)) else (some false)) (letterS b (decide (j = 0)) && allL false ((LL s).drop (j + 1))) := by
        by_cases hd : 48 ≤ b ∧ b ≤ 57
        · refine Ev_pos hd.1 (Ev_pos hd.2 ?_)
          by_cases h0 : j = 0
          · rw [decide_eq_true h0, letterS_n h (.inl rfl)]; exact Ev_neg (by omega) (Ev.now _)
          · rw [decide_eq_false h0, letterS_d hd, Bool.true_and]; exact Ev_pos (by omega) ih
        · rw [letterS_n h (.inr hd)]
          refine Ev_ite (fun h1 => Ev_neg (by omega) (Ev.now _)) (fun h1 => Ev.now _)
      refine Ev_ite (fun h1 => Ev_neg (by omega) (Ev_ite (fun h3 => Ev_neg (by omega) (Ev_neg (by omega) rest)) (fun h3 => Ev_neg (by omega) rest))) (fun h1 => Ev_ite (fun h3 => Ev_neg (by omega) (Ev_neg (by omega) rest)) (fun h3 => Ev_neg (by omega) rest))
theorem rname_j (s : ByteArray) (b : Bool) (hs : s.size ≤ 140737488355328) : Ev (fun k => keystoneref2_Name.j0 k s b) (if b = true then false else allL true (LL s)) := by
  refine Ev.step (fun k => by rw [keystoneref2_Name.j0]) ?_
  cases b with
  | true => exact Ev_pos rfl (Ev.now _)
  | false =>
    refine Ev_neg Bool.false_ne_true ?_
    have h := rname_l s hs s.size 0 (Nat.zero_add _)
    rwa [show decide (0 = 0) = true from rfl, List.drop_zero] at h
theorem rname_f (s : ByteArray) (hs : s.size ≤ 140737488355328) : Ev (fun k => keystoneref2_Name.f k s) (nm s) := by
  unfold keystoneref2_Name.f nm nmL
  rw [LL_length]
  by_cases h : (s.size : Int) < 1
  · have e : LL s = [] := List.length_eq_zero_iff.1 (by rw [LL_length]; omega)
    have := rname_j s true hs
    rw [if_pos rfl] at this
    rw [e, show (decide (([] : List UInt8) ≠ [])) = false from rfl, Bool.false_and, Bool.and_false]
    exact Ev_pos h this
  refine Ev_neg h ?_
  have hne : LL s ≠ [] := fun e => by have := LL_length s; rw [e] at this; simp at this; omega
  have := rname_j s (decide ((s.size : Int) > 32)) hs
  refine cast (congrArg _ ?_) this
  rw [decide_eq_true hne, Bool.true_and]
  by_cases h2 : (s.size : Int) > 32
  · rw [decide_eq_true h2, if_pos rfl, decide_eq_false (by omega), Bool.and_false]
  · rw [decide_eq_false h2, if_neg Bool.false_ne_true, decide_eq_true (by omega), Bool.and_true]
theorem nm_le {s : ByteArray} (h : nm s = true) : s.size ≤ 32 := by
  unfold nm nmL at h
  simp only [Bool.and_eq_true, decide_eq_true_eq] at h
  rw [← LL_length]; exact h.2.2
def isInit (s : ByteArray) : Prop := s.toList = ([60, 105, 110, 105, 116, 62] : List UInt8)
instance (s : ByteArray) : Decidable (isInit s) := by unfold isInit; infer_instance
def mth (s : ByteArray) : Bool := if isInit s then true else nm s

/-! ### what a type is -/
def chk (d : Int) (s : ByteArray) : Int := if d < 0 ∨ 8 < d then 1 else if s.toList = ([] : List UInt8) then 0 else if nm s = true then 0 else 14
theorem dcheck_j (d : Int) (s : ByteArray) (hs : s.size ≤ 140737488355328) (b : Bool) : Ev (fun k => desc_Check.j0 k b d s) (if b = true then 1 else if s.toList = ([] : List UInt8) then 0 else if nm s = true then 0 else 14) := by
  refine Ev.step (fun k => by rw [desc_Check.j0]) ?_
  cases b with
  | true => exact Ev_pos rfl (Ev.now _)
  | false =>
    refine Ev_neg Bool.false_ne_true ?_
    rw [if_neg Bool.false_ne_true]
    by_cases h : s.toList = ([] : List UInt8)
    · exact Ev_pos h (by rw [if_pos h]; exact Ev.now _)
    refine Ev_neg h ?_
    rw [if_neg h]
    refine (Ev.bind (dname_f s hs) ?_)
    by_cases h2 : nm s = true
    · exact Ev_pos h2 (by rw [if_pos h2]; exact Ev.now _)
    · exact Ev_neg h2 (by rw [if_neg h2]; exact Ev.now _)
theorem dcheck_f (d : Int) (s : ByteArray) (hs : s.size ≤ 140737488355328) : Ev (fun k => desc_Check.f k d s) (chk d s) := by
  unfold desc_Check.f chk
  have j := dcheck_j d s hs
  by_cases h : d < 0
  · rw [if_pos (.inl h)]; exact Ev_pos h (by simpa using j true)
  refine Ev_neg h ?_
  by_cases h2 : d > 8
  · rw [if_pos (.inr h2), decide_eq_true h2]; simpa using j true
  · rw [if_neg (by omega), decide_eq_false h2]; simpa using j false
theorem rcheck_j (d : Int) (s : ByteArray) (hs : s.size ≤ 140737488355328) (b : Bool) : Ev (fun k => keystoneref2_Check.j0 k b d s) (if b = true then 1 else if s.toList = ([] : List UInt8) then 0 else if nm s = true then 0 else 14) := by
  refine Ev.step (fun k => by rw [keystoneref2_Check.j0]) ?_
  cases b with
  | true => exact Ev_pos rfl (Ev.now _)
  | false =>
    refine Ev_neg Bool.false_ne_true ?_
    rw [if_neg Bool.false_ne_true]
    by_cases h : s.toList = ([] : List UInt8)
    · exact Ev_pos h (by rw [if_pos h]; exact Ev.now _)
    refine Ev_neg h ?_
    rw [if_neg h]
    refine (Ev.bind (rname_f s hs) ?_)
    by_cases h2 : nm s = true
    · exact Ev_pos h2 (by rw [if_pos h2]; exact Ev.now _)
    · exact Ev_neg h2 (by rw [if_neg h2]; exact Ev.now _)
theorem rcheck_f (d : Int) (s : ByteArray) (hs : s.size ≤ 140737488355328) : Ev (fun k => keystoneref2_Check.f k d s) (chk d s) := by
  unfold keystoneref2_Check.f chk
  have j := rcheck_j d s hs
  by_cases h : d < 0
  · rw [if_pos (.inl h)]; exact Ev_pos h (by simpa using j true)
  refine Ev_neg h ?_
  by_cases h2 : d > 8
  · rw [if_pos (.inr h2), decide_eq_true h2]; simpa using j true
  · rw [if_neg (by omega), decide_eq_false h2]; simpa using j false
theorem chk_0 {d : Int} {s : ByteArray} (h : chk d s = 0) : 0 ≤ d ∧ d ≤ 8 ∧ s.size ≤ 32 ∧ (s.toList = [] ∨ nm s = true) := by
  unfold chk at h
  by_cases h0 : d < 0 ∨ 8 < d
  · rw [if_pos h0] at h; cases h
  rw [if_neg h0] at h
  by_cases h1 : s.toList = ([] : List UInt8)
  · refine ⟨by omega, by omega, ?_, .inl h1⟩
    rw [toList_LL] at h1
    have := LL_length s
    rw [h1] at this
    simp at this; omega
  rw [if_neg h1] at h
  by_cases h2 : nm s = true
  · exact ⟨by omega, by omega, nm_le h2, .inr h2⟩
  · rw [if_neg h2] at h; cases h
theorem chk_cases (d : Int) (s : ByteArray) : chk d s = 0 ∨ chk d s = 1 ∨ chk d s = 14 := by
  unfold chk
  repeat' split
  all_goals simp
theorem known2_t : Ev (fun k => keystonelaw2_known.f k) true := Ev.of keystonelaw2_known.mono (k := 20) (by decide +kernel)
end Go.Proofs.YtlajkmnmooilmaaDoor.Pure
