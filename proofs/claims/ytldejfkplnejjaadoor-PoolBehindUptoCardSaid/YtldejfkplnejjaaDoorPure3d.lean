/- Chapter 2, plainly, as far as pools need it: names, types and signatures read. -/
import Derived.Test.YtldejfkplnejjaaDoorPureA
import Derived.Test.YtldejfkplnejjaaDoorExtSig
import Derived.Test.YtldejfkplnejjaaDoorKinds
import Derived.Test.YtldejfkplnejjaaDoorP3
import Derived.Test.YtldejfkplnejjaaDoorP4
namespace Go.Proofs.YtldejfkplnejjaaDoor.Pure
open Go.RowKit Go.Proofs.YtldejfkplnejjaaDoor.P Go.Proofs.YtldejfkplnejjaaDoorW.PrintWords
set_option linter.unusedVariables false
def LL (s : ByteArray) : List UInt8 := s.data.toList
theorem LL_length (s : ByteArray) : (LL s).length = s.size := by simp [LL]
theorem LL_inj {a b : ByteArray} (h : LL a = LL b) : a = b := by
  cases a; cases b; simpa [LL] using h
theorem toList_LL (s : ByteArray) : s.toList = LL s := ByteArray.toList_eq s
theorem bt_of {s : ByteArray} {j : Nat} {c : UInt8} (h : (LL s)[j]? = some c) : bt s (j : Int) = (c.toNat : Int) := by
  obtain ⟨hj, rfl⟩ := List.getElem?_eq_some_iff.1 h
  rw [LL_length] at hj
  unfold bt
  rw [dif_pos (by simpa using hj)]
  rfl
theorem LL_extract (s : ByteArray) (i j : Nat) : LL (s.extract i j) = ((LL s).take j).drop i := by
  simp [LL, ByteArray.data_extract, Array.toList_extract, List.drop_take]
def letterS (c : Int) (first : Bool) : Bool := decide ((97 ≤ c ∧ c ≤ 122) ∨ (65 ≤ c ∧ c ≤ 90) ∨ c = 95) || (!first && decide (48 ≤ c ∧ c ≤ 57))
theorem letterS_t {c : Int} {f : Bool} (h : (97 ≤ c ∧ c ≤ 122) ∨ (65 ≤ c ∧ c ≤ 90) ∨ c = 95) : letterS c f = true := by unfold letterS; rw [decide_eq_true h]; rfl
theorem letterS_n {c : Int} {f : Bool} (h : ¬ ((97 ≤ c ∧ c ≤ 122) ∨ (65 ≤ c ∧ c ≤ 90) ∨ c = 95)) (h' : f = true ∨ ¬ (48 ≤ c ∧ c ≤ 57)) : letterS c f = false := by
  unfold letterS
  rw [decide_eq_false h]
  rcases h' with rfl | h'
  · rfl
  · rw [decide_eq_false h']; simp
theorem letter_f (c : Int) (b : Bool) : desc_letter.f c b = some (letterS c b) := by
  by_cases h : (97 ≤ c ∧ c ≤ 122) ∨ (65 ≤ c ∧ c ≤ 90) ∨ c = 95
  · rw [letterS_t h]
    unfold desc_letter.f
    repeat' split
    all_goals first | rfl | (exfalso; omega)
  · cases b with
    | true =>
      rw [letterS_n h (.inl rfl)]
      unfold desc_letter.f
      repeat' split
      all_goals first | rfl | (exfalso; omega) | (exfalso; simp_all; done)
    | false =>
      have e : letterS c false = decide (48 ≤ c ∧ c ≤ 57) := by unfold letterS; rw [decide_eq_false h]; simp
      rw [e]
      unfold desc_letter.f
      repeat' split
      all_goals first | (exfalso; omega) | (exfalso; simp_all; done) | (congr 1; simp; omega)
def allL : Bool → List UInt8 → Bool
  | _, [] => true
  | f, c :: l => letterS (c.toNat : Int) f && allL false l
def nmL (l : List UInt8) : Bool := allL true l && (decide (l ≠ []) && decide (l.length ≤ 32))
def nm (s : ByteArray) : Bool := nmL (LL s)
theorem dname_l (s : ByteArray) (hs : s.size ≤ 140737488355328) : ∀ (d j : Nat), j + d = s.size →
    Ev (fun k => desc_Name.l0 k s (s.size : Int) (j : Int)) (allL (decide (j = 0)) ((LL s).drop j) && (decide (LL s ≠ []) && decide ((LL s).length ≤ 32)))
  | 0, j, hj => by
    refine Ev.step (fun k => by rw [desc_Name.l0]) (Ev_neg (by omega) ?_)
    rw [List.drop_of_length_le (by rw [LL_length]; omega), toList_LL, LL_length]
    refine Ev_ite (fun h => Ev_const ?_) (fun h => Ev_const ?_)
    · rw [h]; rfl
    · simp [allL, h]; omega
  | d + 1, j, hj => by
    obtain ⟨c, hc⟩ := at_of (l := LL s) (j := j) (by rw [LL_length]; omega)
    rw [drop_at hc]
    refine Ev.step (fun k => by rw [desc_Name.l0]) (Ev_pos (by omega) (Ev_pos (by omega) (Ev_pos (by omega) (Ev_bindc (letter_f _ _) ?_))))
    rw [bt_of hc, show ((j : Int) == 0) = decide (j = 0) by by_cases h : j = 0 <;> simp [h]]
    rw [allL]
    by_cases hl : letterS (c.toNat : Int) (decide (j = 0)) = true
    · rw [hl, Bool.true_and]
      refine Ev_pos rfl ?_
      rw [show wrap64 ((j : Int) + 1) = ((j + 1 : Nat) : Int) by rw [w64] <;> omega]
      have ih := dname_l s hs d (j + 1) (by omega)
      rwa [show decide (j + 1 = 0) = false by simp] at ih
    · rw [Bool.not_eq_true] at hl
      rw [hl]
      exact Ev_neg Bool.false_ne_true (Ev.now _)
theorem dname_f (s : ByteArray) (hs : s.size ≤ 140737488355328) : Ev (fun k => desc_Name.f k s) (nm s) := by
  have h := dname_l s hs s.size 0 (Nat.zero_add _)
  rwa [show decide (0 = 0) = true from rfl, List.drop_zero] at h
def isInit (s : ByteArray) : Prop := s.toList = ([60, 105, 110, 105, 116, 62] : List UInt8)
instance (s : ByteArray) : Decidable (isInit s) := by unfold isInit; infer_instance
def mth (s : ByteArray) : Bool := if isInit s then true else nm s
def BA (l : List UInt8) : ByteArray := ⟨l.toArray⟩
theorem LL_BA (l : List UInt8) : LL (BA l) = l := by simp [LL, BA]
theorem BA_eq {s : ByteArray} {l : List UInt8} (h : LL s = l) : s = BA l := LL_inj (h.trans (LL_BA l).symm)
theorem BA_size (l : List UInt8) : (BA l).size = l.length := by rw [← LL_length, LL_BA]
theorem extract_BA (s : ByteArray) (j : Nat) : s.extract j s.size = BA ((LL s).drop j) := BA_eq (by rw [LL_extract, List.take_of_length_le (by rw [LL_length]; exact Nat.le_refl _)])
def brk (l : List UInt8) : Nat := (l.takeWhile (· == 91)).length
def semi (l : List UInt8) : Nat := (l.takeWhile (· != 59)).length
theorem brk_drop : ∀ l : List UInt8, l.dropWhile (· == 91) = l.drop (brk l)
  | [] => rfl
  | a :: l => by
    unfold brk
    by_cases h : (a == 91) = true
    · rw [List.dropWhile_cons_of_pos (p := (· == (91 : UInt8))) h, List.takeWhile_cons_of_pos (p := (· == (91 : UInt8))) h, List.length_cons, List.drop_succ_cons]; exact brk_drop l
    · rw [List.dropWhile_cons_of_neg (p := (· == (91 : UInt8))) h, List.takeWhile_cons_of_neg (p := (· == (91 : UInt8))) h]; rfl
theorem brk_le (l : List UInt8) : brk l ≤ l.length := (List.takeWhile_sublist _).length_le
def firstL (l : List UInt8) : Option (Nat × List UInt8 × List UInt8) :=
  if 8 < brk l then none else match l.drop (brk l) with
    | [] => none
    | c :: t => if c = 73 then some (brk l, [], t) else if c = 76 then (if semi t < t.length ∧ nmL (t.take (semi t)) = true then some (brk l, t.take (semi t), t.drop (semi t + 1)) else none) else none
def firstS : Option (Nat × List UInt8 × List UInt8) → Int × ByteArray × ByteArray × Bool
  | none => (0, ⟨#[]⟩, ⟨#[]⟩, false)
  | some (n, m, r) => ((n : Int), BA m, BA r, true)
theorem hasPrefix_f (s : ByteArray) (c : UInt8) : strings_HasPrefix.f s ⟨#[c]⟩ = some (decide ((LL s).head? = some c)) := by
  unfold strings_HasPrefix.f stringslite_HasPrefix.f
  have h1 : ((⟨#[c]⟩ : ByteArray).size : Int) = 1 := rfl
  rw [h1]
  cases hl : LL s with
  | nil =>
    have : s.size = 0 := by rw [← LL_length, hl]; rfl
    rw [if_neg (by omega)]; simp
  | cons a l =>
    have : s.size = l.length + 1 := by rw [← LL_length, hl]; rfl
    rw [if_pos (by omega), if_pos (by omega), if_pos (by omega)]
    simp only [Option.bind_some, toList_LL, LL_extract, hl]
    show some (_ == [c]) = _
    simp
    by_cases h : a = c <;> simp [h]
theorem indexByte_semi : ∀ l : List UInt8, Lib.indexByte l 59 = if semi l < l.length then (semi l : Int) else -1
  | [] => rfl
  | a :: l => by
    have ih := indexByte_semi l
    unfold Lib.indexByte semi
    by_cases h : a = 59
    · subst h; simp
    · have h' : (a != 59) = true := by simpa using h
      have h'' : (a == 59) = false := by simpa using h
      have e : (List.takeWhile (· != (59 : UInt8)) (a :: l)).length = semi l + 1 := by rw [List.takeWhile_cons_of_pos (p := (· != (59 : UInt8))) h']; rfl
      rw [h'', if_neg Bool.false_ne_true, e, List.length_cons]
      by_cases hs : semi l < l.length
      · rw [if_pos hs] at ih
        rw [ih, if_pos (show semi l + 1 < l.length + 1 by omega), if_neg (by simp)]; rfl
      · rw [if_neg hs] at ih
        rw [ih, if_neg (show ¬ semi l + 1 < l.length + 1 by omega)]; rfl
theorem cut_f (s : ByteArray) (hs : s.size ≤ 140737488355328) : strings_Cut.f s ⟨#[59]⟩ = some (if semi (LL s) < (LL s).length then (BA ((LL s).take (semi (LL s))), BA ((LL s).drop (semi (LL s) + 1)), true) else (s, ⟨#[]⟩, false)) := by
  unfold strings_Cut.f stringslite_Cut.f stringslite_Index.f
  rw [if_pos rfl, show s.data.toList = LL s from rfl, indexByte_semi]
  have h1 : ((⟨#[59]⟩ : ByteArray).size : Int) = 1 := rfl
  by_cases h : semi (LL s) < (LL s).length
  · rw [if_pos h, if_pos h]
    have hl := LL_length s
    simp only [Option.bind_some, h1]
    rw [w64 (by omega) (by omega), if_pos (by omega), if_pos (by omega), if_pos (by omega), if_pos (by omega), if_pos (by omega)]
    simp only [Option.bind_some]
    rw [show ((semi (LL s) : Int) + 1).toNat = semi (LL s) + 1 by omega, extract_BA, Int.toNat_natCast]
    congr 2
    exact BA_eq (by rw [LL_extract]; simp)
  · rw [if_neg h, if_neg h]; rfl
theorem first_f (s : ByteArray) (hs : s.size ≤ 140737488355328) : Ev (fun k => desc_first.f k s) (firstS (firstL (LL s))) := by
  unfold desc_first.f firstL
  have hl := LL_length s
  have hb := brk_le (LL s)
  refine Ev_bindc (x := BA ((LL s).drop (brk (LL s)))) (by unfold strings_TrimLeft.f; rw [if_pos rfl]; show some (BA (Lib.trimLeftB (LL s) 91)) = _; unfold Lib.trimLeftB; rw [brk_drop]) ?_
  simp only [BA_size, List.length_drop]
  have hn : wrap64 ((s.size : Int) - (((LL s).length - brk (LL s) : Nat) : Int)) = (brk (LL s) : Int) := by rw [w64] <;> omega
  rw [hn]
  by_cases h8 : 8 < brk (LL s)
  · rw [if_pos h8]; exact Ev_pos (by omega) (Ev.now _)
  rw [if_neg h8]
  refine Ev_neg (by omega) (Ev_pos (by omega) (Ev_pos (by omega) ?_))
  rw [Int.toNat_natCast, extract_BA]
  refine Ev_bindc (hasPrefix_f _ 73) ?_
  rw [LL_BA]
  have hsz : (BA ((LL s).drop (brk (LL s)))).size ≤ 140737488355328 := by rw [BA_size, List.length_drop]; omega
  generalize (LL s).drop (brk (LL s)) = u at hsz
  match u, hsz with
  | [], hsz =>
    refine Ev_neg (by simp) (Ev_bindc (cut_f _ hsz) ?_)
    rw [LL_BA]
    exact Ev_neg (by simp) (Ev.now _)
  | c :: t, hsz =>
    by_cases h1 : c = 73
    · subst h1
      refine Ev_pos (by simp) (Ev_pos (by rw [BA_size]; simp; omega) ?_)
      rw [extract_BA, LL_BA]
      exact Ev.now _
    have h1' : ¬ (decide ((c :: t).head? = some 73) = true) := by simpa using h1
    refine Ev_neg h1' (Ev_bindc (cut_f _ hsz) ?_)
    rw [LL_BA]
    simp only
    rw [if_neg h1]
    by_cases h2 : c = 76
    · subst h2
      rw [if_pos rfl]
      have e : semi (76 :: t) = semi t + 1 := by unfold semi; rw [List.takeWhile_cons_of_pos (by decide)]; rfl
      simp only [e, List.length_cons]
      by_cases h3 : semi t < t.length
      · rw [if_pos (show semi t + 1 < t.length + 1 by omega)]
        refine Ev_pos rfl (Ev_bindc (hasPrefix_f _ 76) (Ev_pos ?_ (Ev_pos ?_ ?_)))
        · rw [LL_BA]; simp
        · rw [BA_size]; simp; omega
        · simp only [extract_BA, LL_BA]
          rw [show ((76 :: t).take (semi t + 1)).drop 1 = t.take (semi t) by simp]
          refine Ev.bind (dname_f _ (by rw [BA_size]; simp only [BA_size, List.length_cons, List.length_take] at hsz ⊢; omega)) ?_
          have hnm : nm (BA (t.take (semi t))) = nmL (t.take (semi t)) := by unfold nm; rw [LL_BA]
          rw [hnm]
          by_cases h4 : nmL (t.take (semi t)) = true
          · refine Ev_pos h4 ?_
            rw [if_pos ⟨h3, h4⟩]
            exact Ev_const (by simp [firstS])
          · refine Ev_neg h4 ?_
            rw [if_neg (fun h => h4 h.2)]
            exact Ev.now _
      · rw [if_neg (show ¬ semi t + 1 < t.length + 1 by omega), if_neg (fun h => h3 h.1)]
        exact Ev_neg Bool.false_ne_true (Ev.now _)
    · rw [if_neg h2]
      refine Ev_ite (fun h5 => ?_) (fun _ => Ev.now _)
      by_cases h3 : semi (c :: t) < (c :: t).length
      · rw [if_pos h3]
        refine Ev_bindc (hasPrefix_f _ 76) (Ev_neg ?_ (Ev.now _))
        rw [LL_BA]
        cases hsm : semi (c :: t) with
        | zero => simp
        | succ n => simp [h2]
      · rw [if_neg h3] at h5
        exact absurd h5 Bool.false_ne_true
def typeL (l : List UInt8) : Int × ByteArray × Int := match firstL l with
  | some (n, m, []) => ((n : Int), BA m, 0)
  | _ => (0, ⟨#[]⟩, 15)
theorem type_f (s : ByteArray) (hs : s.size ≤ 140737488355328) : Ev (fun k => desc_Type.f k s) (typeL (LL s)) := by
  unfold desc_Type.f typeL
  refine Ev.bind (first_f s hs) ?_
  cases h : firstL (LL s) with
  | none => exact Ev_neg Bool.false_ne_true (Ev.now _)
  | some r =>
    obtain ⟨n, m, r⟩ := r
    refine Ev_pos rfl ?_
    cases r with
    | nil => exact Ev_pos (show (BA []).toList = [] by rw [toList_LL, LL_BA]) (Ev.now _)
    | cons a r => exact Ev_neg (show ¬ (BA (a :: r)).toList = [] by rw [toList_LL, LL_BA]; simp) (Ev.now _)
theorem first_len {l : List UInt8} {n : Nat} {m r : List UInt8} (h : firstL l = some (n, m, r)) : r.length < l.length ∧ n ≤ 8 ∧ m.length ≤ 32 := by
  unfold firstL at h
  split at h
  · cases h
  · rename_i h8
    split at h
    · cases h
    · rename_i c t hd
      have hlen : t.length + 1 = l.length - brk l := by rw [← List.length_drop, hd]; rfl
      split at h
      · simp only [Option.some.injEq, Prod.mk.injEq] at h
        obtain ⟨rfl, rfl, rfl⟩ := h
        exact ⟨by omega, by omega, by simp⟩
      · split at h
        · split at h
          · rename_i hh
            simp only [Option.some.injEq, Prod.mk.injEq] at h
            obtain ⟨rfl, rfl, rfl⟩ := h
            have := hh.2
            unfold nmL at this
            simp only [Bool.and_eq_true, decide_eq_true_eq] at this
            exact ⟨by rw [List.length_drop]; omega, by omega, this.2.2⟩
          · cases h
        · cases h
abbrev Ty := S34
abbrev SigV := List Ty × Bool × Int × ByteArray × Int
def sigE (acc : List Ty) (r : List UInt8) : SigV :=
  if r = [86] then (if 16 < acc.length then ([], false, 0, ⟨#[]⟩, 4) else (acc, true, 0, ⟨#[]⟩, 0))
  else match firstL r with
    | some (n, m, []) => if 16 < acc.length then ([], false, 0, ⟨#[]⟩, 4) else (acc, false, (n : Int), BA m, 0)
    | _ => ([], false, 0, ⟨#[]⟩, 15)
def sigP : Nat → List Ty → List UInt8 → SigV
  | _, _, [] => ([], false, 0, ⟨#[]⟩, 15)
  | 0, _, _ :: _ => ([], false, 0, ⟨#[]⟩, 15)
  | f + 1, acc, c :: t => if c = 41 then sigE acc t else match firstL (c :: t) with
    | none => ([], false, 0, ⟨#[]⟩, 15)
    | some (n, m, r) => sigP f (acc ++ [⟨(n : Int), BA m⟩]) r
def sigS : List UInt8 → SigV
  | 40 :: t => sigP t.length [] t
  | _ => ([], false, 0, ⟨#[]⟩, 15)
theorem dsig_l : ∀ (f : Nat) (acc : List Ty) (s : ByteArray), s.size ≤ f → s.size ≤ 1000000000000 → acc.length + s.size ≤ 1000000000000 → Ev (fun k => desc_Sig.l0 k s acc false 0 ⟨#[]⟩) (sigP f acc (LL s))
  | f, acc, s, hf, hs, ha => by
    have hl := LL_length s
    refine Ev.step (fun k => by rw [desc_Sig.l0]) (Ev_bindc (hasPrefix_f s 41) ?_)
    match hu : LL s, f with
    | [], f =>
      refine Ev_neg (by simp) (Ev.bind (first_f s (by omega)) ?_)
      rw [hu]
      refine Ev_neg Bool.false_ne_true ?_
      cases f <;> exact Ev.now _
    | c :: t, 0 => rw [hu] at hl; simp at hl; omega
    | c :: t, f + 1 =>
      rw [hu] at hl
      simp only [List.length_cons] at hl
      by_cases hc : c = 41
      · subst hc
        refine Ev_pos (by simp) ?_
        have hx : s.extract 1 s.size = BA t := by rw [extract_BA, hu]; rfl
        show Ev _ (sigE acc t)
        unfold sigE
        by_cases hv : t = [86]
        · rw [if_pos hv]
          refine Ev_pos (by rw [toList_LL, hu, hv]) ?_
          by_cases h16 : 16 < acc.length
          · exact Ev_pos (by omega) (by rw [if_pos h16]; exact Ev.now _)
          · exact Ev_neg (by omega) (by rw [if_neg h16]; exact Ev.now _)
        · rw [if_neg hv]
          refine Ev_neg (by rw [toList_LL, hu]; simpa using hv) (Ev_pos (by omega) ?_)
          rw [hx]
          refine Ev.bind (first_f _ (by rw [BA_size]; omega)) ?_
          rw [LL_BA]
          have bad : ∀ (x : Int) (y : ByteArray), Ev (fun k => desc_Sig.j1 k true acc false x y) (([], false, 0, ⟨#[]⟩, 15) : SigV) := fun x y => by
            refine Ev.step (fun k => by rw [desc_Sig.j1]) ?_
            exact Ev_pos rfl (Ev.now _)
          cases hfl : firstL t with
          | none => exact Ev_neg Bool.false_ne_true (bad _ _)
          | some q =>
            obtain ⟨n, m, r⟩ := q
            refine Ev_pos rfl ?_
            cases r with
            | nil =>
              have e : ((BA []).toList != ([] : List UInt8)) = false := by rw [toList_LL, LL_BA]; rfl
              show Ev (fun k => desc_Sig.j1 k ((BA []).toList != ([] : List UInt8)) acc false (n : Int) (BA m)) _
              rw [e]
              refine Ev.step (fun k => by rw [desc_Sig.j1]) (Ev_neg Bool.false_ne_true ?_)
              by_cases h16 : 16 < acc.length
              · exact Ev_pos (by omega) (by simp only; rw [if_pos h16]; exact Ev.now _)
              · exact Ev_neg (by omega) (by simp only; rw [if_neg h16]; exact Ev.now _)
            | cons x r =>
              have e : ((BA (x :: r)).toList != ([] : List UInt8)) = true := by rw [toList_LL, LL_BA]; rfl
              show Ev (fun k => desc_Sig.j1 k ((BA (x :: r)).toList != ([] : List UInt8)) acc false (n : Int) (BA m)) _
              rw [e]
              exact bad _ _
      · refine Ev_neg (by simpa using hc) (Ev.bind (first_f s (by omega)) ?_)
        rw [hu]
        simp only [sigP]
        rw [if_neg hc]
        cases hfl : firstL (c :: t) with
        | none => exact Ev_neg Bool.false_ne_true (Ev.now _)
        | some q =>
          obtain ⟨n, m, r⟩ := q
          obtain ⟨h1, h2, h3⟩ := first_len hfl
          simp only [List.length_cons] at h1
          refine Ev_pos rfl (Ev_pos (by omega) ?_)
          have ih := dsig_l f (acc ++ [⟨(n : Int), BA m⟩]) (BA r) (by rw [BA_size]; omega) (by rw [BA_size]; omega) (by rw [BA_size]; simp; omega)
          rw [LL_BA] at ih
          exact ih
theorem dsig_f (s : ByteArray) (hs : s.size ≤ 1000000000000) : Ev (fun k => desc_Sig.f k s) (sigS (LL s)) := by
  unfold desc_Sig.f
  have hl := LL_length s
  refine Ev_bindc (hasPrefix_f s 40) ?_
  cases hu : LL s with
  | nil => exact Ev_neg (by simp) (Ev.now _)
  | cons c t =>
    rw [hu] at hl
    simp only [List.length_cons] at hl
    by_cases hc : c = 40
    · subst hc
      refine Ev_pos (by simp) (Ev_pos (by omega) ?_)
      have hx : s.extract 1 s.size = BA t := by rw [extract_BA, hu]; rfl
      rw [hx]
      have := dsig_l t.length [] (BA t) (by rw [BA_size]; exact Nat.le_refl _) (by rw [BA_size]; omega) (by rw [BA_size]; simp; omega)
      rw [LL_BA] at this
      exact this
    · refine Ev_neg (by simpa using hc) ?_
      have e : sigS (c :: t) = ([], false, 0, ⟨#[]⟩, 15) := by
        unfold sigS
        split
        · rename_i h; simp at h; exact absurd h.1 hc
        · rfl
      rw [e]
      exact Ev.now _
theorem sigE_len (acc : List Ty) (r : List UInt8) : (sigE acc r).1.length ≤ 16 := by
  unfold sigE
  repeat' split
  all_goals simp only [List.length_nil] <;> omega
theorem sigP_len : ∀ (f : Nat) (acc : List Ty) (l : List UInt8), (sigP f acc l).1.length ≤ 16
  | 0, acc, [] => by simp [sigP]
  | f + 1, acc, [] => by simp [sigP]
  | 0, acc, c :: t => by simp [sigP]
  | f + 1, acc, c :: t => by
    simp only [sigP]
    split
    · exact sigE_len _ _
    · split
      · simp
      · exact sigP_len f _ _
theorem sigS_len (l : List UInt8) : (sigS l).1.length ≤ 16 := by
  unfold sigS
  split
  · exact sigP_len _ _ _
  · simp
theorem dmethod_f (s : ByteArray) (hs : s.size ≤ 140737488355328) : Ev (fun k => desc_Method.f k s) (mth s) := by
  unfold desc_Method.f mth
  by_cases h : isInit s
  · rw [if_pos h]; exact Ev_pos h (Ev.now _)
  · rw [if_neg h]; exact Ev_neg h (Ev.bind (dname_f s hs) (Ev.now _))
end Go.Proofs.YtldejfkplnejjaaDoor.Pure
