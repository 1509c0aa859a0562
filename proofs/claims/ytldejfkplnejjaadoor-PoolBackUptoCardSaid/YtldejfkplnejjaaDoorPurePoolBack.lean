/- PoolBack, plainly. -/
import Derived.Test.YtldejfkplnejjaaDoorWMore
import Derived.Test.YtldejfkplnejjaaDoorExtSig
import Derived.Test.YtldejfkplnejjaaDoorKinds
import Derived.Test.YtldejfkplnejjaaDoorP3
import Derived.Test.YtldejfkplnejjaaDoorP4
import Derived.Test.YtldejfkplnejjaaDoorP6
import Derived.Test.YtldejfkplnejjaaDoorExtText
import Derived.Test.YtldejfkplnejjaaDoorP29
import Derived.Test.YtldejfkplnejjaaDoorExtUses
import Derived.Test.YtldejfkplnejjaaDoorP5
import Derived.Test.YtldejfkplnejjaaDoorP7
import Derived.Test.YtldejfkplnejjaaDoorP8
import Derived.Test.YtldejfkplnejjaaDoorExtL0
import Derived.Test.YtldejfkplnejjaaDoorP10
import Derived.Test.YtldejfkplnejjaaDoorP13
import Derived.Test.YtldejfkplnejjaaDoorP11
import Derived.Test.YtldejfkplnejjaaDoorP30
import Derived.Test.YtldejfkplnejjaaDoorExtQ
namespace Go.Proofs.YtldejfkplnejjaaDoor.Pure
open Go.RowKit Go.Proofs.YtldejfkplnejjaaDoorW.PrintWords
theorem w64 {n : Int} (h0 : -9223372036854775808 ≤ n) (h1 : n ≤ 9223372036854775807) : wrap64 n = n := by unfold wrap64; omega
theorem Ev_const {α : Type} {o : Option α} {r : α} (h : o = some r) : Ev (fun _ => o) r := ⟨0, fun _ _ => h⟩
theorem Ev_pos {α : Type} {c : Prop} [Decidable c] {f g : Nat → Option α} {r : α} (hc : c) (h : Ev f r) : Ev (fun k => if c then f k else g k) r := by
  simpa only [if_pos hc] using h
theorem Ev_neg {α : Type} {c : Prop} [Decidable c] {f g : Nat → Option α} {r : α} (hc : ¬ c) (h : Ev g r) : Ev (fun k => if c then f k else g k) r := by
  simpa only [if_neg hc] using h
theorem Ev_ite {α : Type} {c : Prop} [Decidable c] {f g : Nat → Option α} {r : α} (h : c → Ev f r) (h' : ¬ c → Ev g r) : Ev (fun k => if c then f k else g k) r := by
  by_cases hc : c
  · exact Ev_pos hc (h hc)
  · exact Ev_neg hc (h' hc)
theorem Ev_bindc {α β : Type} {o : Option α} {x : α} {f : Nat → α → Option β} {r : β} (ho : o = some x) (h : Ev (fun n => f n x) r) : Ev (fun n => o.bind (f n)) r := by
  subst ho; exact h
theorem getD_at {α : Type} {l : List α} {d : α} {i : Int} {x : α} {j : Nat} (hi : i = j) (h : l[j]? = some x) : l.getD i.toNat d = x := by
  subst hi
  simp [List.getD, h]
theorem at_of {α : Type} {l : List α} {j : Nat} (h : j < l.length) : ∃ x, l[j]? = some x := ⟨l[j], List.getElem?_eq_getElem h⟩
theorem drop_at {α : Type} {l : List α} {j : Nat} {x : α} (h : l[j]? = some x) : l.drop j = x :: l.drop (j + 1) := by
  obtain ⟨hj, rfl⟩ := List.getElem?_eq_some_iff.1 h
  exact List.drop_eq_getElem_cons hj
end Go.Proofs.YtldejfkplnejjaaDoor.Pure
namespace Go.Proofs.YtldejfkplnejjaaDoor.Pure
open Go.RowKit Go.Proofs.YtldejfkplnejjaaDoor.P Go.Proofs.YtldejfkplnejjaaDoorW.PrintWords
set_option linter.unusedVariables false
def LL (s : ByteArray) : List UInt8 := s.data.toList
theorem LL_length (s : ByteArray) : (LL s).length = s.size := by simp [LL]
theorem LL_inj {a b : ByteArray} (h : LL a = LL b) : a = b := by
  cases a; cases b; simpa [LL] using h
theorem toList_LL (s : ByteArray) : s.toList = LL s := ByteArray.toList_eq s
theorem bt_of {s : ByteArray} {j : Nat} {c : UInt8} (h : (LL s)[j]? = some c) : bt s (j : Int) = (c.toNat : Int) := by
  obtain ⟨hj, rfl⟩ := List.getElem?_eq_some_iff.1 h
  rw [LL_length] at hj
  unfold bt
  rw [dif_pos (by simpa using hj)]
  rfl
theorem LL_extract (s : ByteArray) (i j : Nat) : LL (s.extract i j) = ((LL s).take j).drop i := by
  simp [LL, ByteArray.data_extract, Array.toList_extract, List.drop_take]
def letterS (c : Int) (first : Bool) : Bool := decide ((97 ≤ c ∧ c ≤ 122) ∨ (65 ≤ c ∧ c ≤ 90) ∨ c = 95) || (!first && decide (48 ≤ c ∧ c ≤ 57))
theorem letterS_t {c : Int} {f : Bool} (h : (97 ≤ c ∧ c ≤ 122) ∨ (65 ≤ c ∧ c ≤ 90) ∨ c = 95) : letterS c f = true := by unfold letterS; rw [decide_eq_true h]; rfl
theorem letterS_n {c : Int} {f : Bool} (h : ¬ ((97 ≤ c ∧ c ≤ 122) ∨ (65 ≤ c ∧ c ≤ 90) ∨ c = 95)) (h' : f = true ∨ ¬ (48 ≤ c ∧ c ≤ 57)) : letterS c f = false := by
  unfold letterS
  rw [decide_eq_false h]
  rcases h' with rfl | h'
  · rfl
  · rw [decide_eq_false h']; simp
theorem letter_f (c : Int) (b : Bool) : desc_letter.f c b = some (letterS c b) := by
  by_cases h : (97 ≤ c ∧ c ≤ 122) ∨ (65 ≤ c ∧ c ≤ 90) ∨ c = 95
  · rw [letterS_t h]
    unfold desc_letter.f
    repeat' split
    all_goals first | rfl | (exfalso; omega)
  · cases b with
    | true =>
      rw [letterS_n h (.inl rfl)]
      unfold desc_letter.f
      repeat' split
      all_goals first | rfl | (exfalso; omega) | (exfalso; simp_all; done)
    | false =>
      have e : letterS c false = decide (48 ≤ c ∧ c ≤ 57) := by unfold letterS; rw [decide_eq_false h]; simp
      rw [e]
      unfold desc_letter.f
      repeat' split
      all_goals first | (exfalso; omega) | (exfalso; simp_all; done) | (congr 1; simp; omega)
def allL : Bool → List UInt8 → Bool
  | _, [] => true
  | f, c :: l => letterS (c.toNat : Int) f && allL false l
def nmL (l : List UInt8) : Bool := allL true l && (decide (l ≠ []) && decide (l.length ≤ 32))
def nm (s : ByteArray) : Bool := nmL (LL s)
theorem dname_l (s : ByteArray) (hs : s.size ≤ 140737488355328) : ∀ (d j : Nat), j + d = s.size →
    Ev (fun k => desc_Name.l0 k s (s.size : Int) (j : Int)) (allL (decide (j = 0)) ((LL s).drop j) && (decide (LL s ≠ []) && decide ((LL s).length ≤ 32)))
  | 0, j, hj => by
    refine Ev.step (fun k => by rw [desc_Name.l0]) (Ev_neg (by omega) ?_)
    rw [List.drop_of_length_le (by rw [LL_length]; omega), toList_LL, LL_length]
    refine Ev_ite (fun h => Ev_const ?_) (fun h => Ev_const ?_)
    · rw [h]; rfl
    · simp [allL, h]; omega
  | d + 1, j, hj => by
    obtain ⟨c, hc⟩ := at_of (l := LL s) (j := j) (by rw [LL_length]; omega)
    rw [drop_at hc]
    refine Ev.step (fun k => by rw [desc_Name.l0]) (Ev_pos (by omega) (Ev_pos (by omega) (Ev_pos (by omega) (Ev_bindc (letter_f _ _) ?_))))
    rw [bt_of hc, show ((j : Int) == 0) = decide (j = 0) by by_cases h : j = 0 <;> simp [h]]
    rw [allL]
    by_cases hl : letterS (c.toNat : Int) (decide (j = 0)) = true
    · rw [hl, Bool.true_and]
      refine Ev_pos rfl ?_
      rw [show wrap64 ((j : Int) + 1) = ((j + 1 : Nat) : Int) by rw [w64] <;> omega]
      have ih := dname_l s hs d (j + 1) (by omega)
      rwa [show decide (j + 1 = 0) = false by simp] at ih
    · rw [Bool.not_eq_true] at hl
      rw [hl]
      exact Ev_neg Bool.false_ne_true (Ev.now _)
theorem dname_f (s : ByteArray) (hs : s.size ≤ 140737488355328) : Ev (fun k => desc_Name.f k s) (nm s) := by
  have h := dname_l s hs s.size 0 (Nat.zero_add _)
  rwa [show decide (0 = 0) = true from rfl, List.drop_zero] at h
def isInit (s : ByteArray) : Prop := s.toList = ([60, 105, 110, 105, 116, 62] : List UInt8)
instance (s : ByteArray) : Decidable (isInit s) := by unfold isInit; infer_instance
def mth (s : ByteArray) : Bool := if isInit s then true else nm s
def BA (l : List UInt8) : ByteArray := ⟨l.toArray⟩
theorem LL_BA (l : List UInt8) : LL (BA l) = l := by simp [LL, BA]
theorem BA_eq {s : ByteArray} {l : List UInt8} (h : LL s = l) : s = BA l := LL_inj (h.trans (LL_BA l).symm)
theorem BA_size (l : List UInt8) : (BA l).size = l.length := by rw [← LL_length, LL_BA]
theorem extract_BA (s : ByteArray) (j : Nat) : s.extract j s.size = BA ((LL s).drop j) := BA_eq (by rw [LL_extract, List.take_of_length_le (by rw [LL_length]; exact Nat.le_refl _)])
def brk (l : List UInt8) : Nat := (l.takeWhile (· == 91)).length
def semi (l : List UInt8) : Nat := (l.takeWhile (· != 59)).length
theorem brk_drop : ∀ l : List UInt8, l.dropWhile (· == 91) = l.drop (brk l)
  | [] => rfl
  | a :: l => by
    unfold brk
    by_cases h : (a == 91) = true
    · rw [List.dropWhile_cons_of_pos (p := (· == (91 : UInt8))) h, List.takeWhile_cons_of_pos (p := (· == (91 : UInt8))) h, List.length_cons, List.drop_succ_cons]; exact brk_drop l
    · rw [List.dropWhile_cons_of_neg (p := (· == (91 : UInt8))) h, List.takeWhile_cons_of_neg (p := (· == (91 : UInt8))) h]; rfl
theorem brk_le (l : List UInt8) : brk l ≤ l.length := (List.takeWhile_sublist _).length_le
def firstL (l : List UInt8) : Option (Nat × List UInt8 × List UInt8) :=
  if 8 < brk l then none else match l.drop (brk l) with
    | [] => none
    | c :: t => if c = 73 then some (brk l, [], t) else if c = 76 then (if semi t < t.length ∧ nmL (t.take (semi t)) = true then some (brk l, t.take (semi t), t.drop (semi t + 1)) else none) else none
def firstS : Option (Nat × List UInt8 × List UInt8) → Int × ByteArray × ByteArray × Bool
  | none => (0, ⟨#[]⟩, ⟨#[]⟩, false)
  | some (n, m, r) => ((n : Int), BA m, BA r, true)
theorem hasPrefix_f (s : ByteArray) (c : UInt8) : strings_HasPrefix.f s ⟨#[c]⟩ = some (decide ((LL s).head? = some c)) := by
  unfold strings_HasPrefix.f stringslite_HasPrefix.f
  have h1 : ((⟨#[c]⟩ : ByteArray).size : Int) = 1 := rfl
  rw [h1]
  cases hl : LL s with
  | nil =>
    have : s.size = 0 := by rw [← LL_length, hl]; rfl
    rw [if_neg (by omega)]; simp
  | cons a l =>
    have : s.size = l.length + 1 := by rw [← LL_length, hl]; rfl
    rw [if_pos (by omega), if_pos (by omega), if_pos (by omega)]
    simp only [Option.bind_some, toList_LL, LL_extract, hl]
    show some (_ == [c]) = _
    simp
    by_cases h : a = c <;> simp [h]
theorem indexByte_semi : ∀ l : List UInt8, Lib.indexByte l 59 = if semi l < l.length then (semi l : Int) else -1
  | [] => rfl
  | a :: l => by
    have ih := indexByte_semi l
    unfold Lib.indexByte semi
    by_cases h : a = 59
    · subst h; simp
    · have h' : (a != 59) = true := by simpa using h
      have h'' : (a == 59) = false := by simpa using h
      have e : (List.takeWhile (· != (59 : UInt8)) (a :: l)).length = semi l + 1 := by rw [List.takeWhile_cons_of_pos (p := (· != (59 : UInt8))) h']; rfl
      rw [h'', if_neg Bool.false_ne_true, e, List.length_cons]
      by_cases hs : semi l < l.length
      · rw [if_pos hs] at ih
        rw [ih, if_pos (show semi l + 1 < l.length + 1 by omega), if_neg (by simp)]; rfl
      · rw [if_neg hs] at ih
        rw [ih, if_neg (show ¬ semi l + 1 < l.length + 1 by omega)]; rfl
theorem cut_f (s : ByteArray) (hs : s.size ≤ 140737488355328) : strings_Cut.f s ⟨#[59]⟩ = some (if semi (LL s) < (LL s).length then (BA ((LL s).take (semi (LL s))), BA ((LL s).drop (semi (LL s) + 1)), true) else (s, ⟨#[]⟩, false)) := by
  unfold strings_Cut.f stringslite_Cut.f stringslite_Index.f
  rw [if_pos rfl, show s.data.toList = LL s from rfl, indexByte_semi]
  have h1 : ((⟨#[59]⟩ : ByteArray).size : Int) = 1 := rfl
  by_cases h : semi (LL s) < (LL s).length
  · rw [if_pos h, if_pos h]
    have hl := LL_length s
    simp only [Option.bind_some, h1]
    rw [w64 (by omega) (by omega), if_pos (by omega), if_pos (by omega), if_pos (by omega), if_pos (by omega), if_pos (by omega)]
    simp only [Option.bind_some]
    rw [show ((semi (LL s) : Int) + 1).toNat = semi (LL s) + 1 by omega, extract_BA, Int.toNat_natCast]
    congr 2
    exact BA_eq (by rw [LL_extract]; simp)
  · rw [if_neg h, if_neg h]; rfl
theorem first_f (s : ByteArray) (hs : s.size ≤ 140737488355328) : Ev (fun k => desc_first.f k s) (firstS (firstL (LL s))) := by
  unfold desc_first.f firstL
  have hl := LL_length s
  have hb := brk_le (LL s)
  refine Ev_bindc (x := BA ((LL s).drop (brk (LL s)))) (by unfold strings_TrimLeft.f; rw [if_pos rfl]; show some (BA (Lib.trimLeftB (LL s) 91)) = _; unfold Lib.trimLeftB; rw [brk_drop]) ?_
  simp only [BA_size, List.length_drop]
  have hn : wrap64 ((s.size : Int) - (((LL s).length - brk (LL s) : Nat) : Int)) = (brk (LL s) : Int) := by rw [w64] <;> omega
  rw [hn]
  by_cases h8 : 8 < brk (LL s)
  · rw [if_pos h8]; exact Ev_pos (by omega) (Ev.now _)
  rw [if_neg h8]
  refine Ev_neg (by omega) (Ev_pos (by omega) (Ev_pos (by omega) ?_))
  rw [Int.toNat_natCast, extract_BA]
  refine Ev_bindc (hasPrefix_f _ 73) ?_
  rw [LL_BA]
  have hsz : (BA ((LL s).drop (brk (LL s)))).size ≤ 140737488355328 := by rw [BA_size, List.length_drop]; omega
  generalize (LL s).drop (brk (LL s)) = u at hsz
  match u, hsz with
  | [], hsz =>
    refine Ev_neg (by simp) (Ev_bindc (cut_f _ hsz) ?_)
    rw [LL_BA]
    exact Ev_neg (by simp) (Ev.now _)
  | c :: t, hsz =>
    by_cases h1 : c = 73
    · subst h1
      refine Ev_pos (by simp) (Ev_pos (by rw [BA_size]; simp; omega) ?_)
      rw [extract_BA, LL_BA]
      exact Ev.now _
    have h1' : ¬ (decide ((c :: t).head? = some 73) = true) := by simpa using h1
    refine Ev_neg h1' (Ev_bindc (cut_f _ hsz) ?_)
    rw [LL_BA]
    simp only
    rw [if_neg h1]
    by_cases h2 : c = 76
    · subst h2
      rw [if_pos rfl]
      have e : semi (76 :: t) = semi t + 1 := by unfold semi; rw [List.takeWhile_cons_of_pos (by decide)]; rfl
      simp only [e, List.length_cons]
      by_cases h3 : semi t < t.length
      · rw [if_pos (show semi t + 1 < t.length + 1 by omega)]
        refine Ev_pos rfl (Ev_bindc (hasPrefix_f _ 76) (Ev_pos ?_ (Ev_pos ?_ ?_)))
        · rw [LL_BA]; simp
        · rw [BA_size]; simp; omega
        · simp only [extract_BA, LL_BA]
          rw [show ((76 :: t).take (semi t + 1)).drop 1 = t.take (semi t) by simp]
          refine Ev.bind (dname_f _ (by rw [BA_size]; simp only [BA_size, List.length_cons, List.length_take] at hsz ⊢; omega)) ?_
          have hnm : nm (BA (t.take (semi t))) = nmL (t.take (semi t)) := by unfold nm; rw [LL_BA]
          rw [hnm]
          by_cases h4 : nmL (t.take (semi t)) = true
          · refine Ev_pos h4 ?_
            rw [if_pos ⟨h3, h4⟩]
            exact Ev_const (by simp [firstS])
          · refine Ev_neg h4 ?_
            rw [if_neg (fun h => h4 h.2)]
            exact Ev.now _
      · rw [if_neg (show ¬ semi t + 1 < t.length + 1 by omega), if_neg (fun h => h3 h.1)]
        exact Ev_neg Bool.false_ne_true (Ev.now _)
    · rw [if_neg h2]
      refine Ev_ite (fun h5 => ?_) (fun _ => Ev.now _)
      by_cases h3 : semi (c :: t) < (c :: t).length
      · rw [if_pos h3]
        refine Ev_bindc (hasPrefix_f _ 76) (Ev_neg ?_ (Ev.now _))
        rw [LL_BA]
        cases hsm : semi (c :: t) with
        | zero => simp
        | succ n => simp [h2]
      · rw [if_neg h3] at h5
        exact absurd h5 Bool.false_ne_true
def typeL (l : List UInt8) : Int × ByteArray × Int := match firstL l with
  | some (n, m, []) => ((n : Int), BA m, 0)
  | _ => (0, ⟨#[]⟩, 15)
theorem type_f (s : ByteArray) (hs : s.size ≤ 140737488355328) : Ev (fun k => desc_Type.f k s) (typeL (LL s)) := by
  unfold desc_Type.f typeL
  refine Ev.bind (first_f s hs) ?_
  cases h : firstL (LL s) with
  | none => exact Ev_neg Bool.false_ne_true (Ev.now _)
  | some r =>
    obtain ⟨n, m, r⟩ := r
    refine Ev_pos rfl ?_
    cases r with
    | nil => exact Ev_pos (show (BA []).toList = [] by rw [toList_LL, LL_BA]) (Ev.now _)
    | cons a r => exact Ev_neg (show ¬ (BA (a :: r)).toList = [] by rw [toList_LL, LL_BA]; simp) (Ev.now _)
theorem first_len {l : List UInt8} {n : Nat} {m r : List UInt8} (h : firstL l = some (n, m, r)) : r.length < l.length ∧ n ≤ 8 ∧ m.length ≤ 32 := by
  unfold firstL at h
  split at h
  · cases h
  · rename_i h8
    split at h
    · cases h
    · rename_i c t hd
      have hlen : t.length + 1 = l.length - brk l := by rw [← List.length_drop, hd]; rfl
      split at h
      · simp only [Option.some.injEq, Prod.mk.injEq] at h
        obtain ⟨rfl, rfl, rfl⟩ := h
        exact ⟨by omega, by omega, by simp⟩
      · split at h
        · split at h
          · rename_i hh
            simp only [Option.some.injEq, Prod.mk.injEq] at h
            obtain ⟨rfl, rfl, rfl⟩ := h
            have := hh.2
            unfold nmL at this
            simp only [Bool.and_eq_true, decide_eq_true_eq] at this
            exact ⟨by rw [List.length_drop]; omega, by omega, this.2.2⟩
          · cases h
        · cases h
abbrev Ty := S34
abbrev SigV := List Ty × Bool × Int × ByteArray × Int
def sigE (acc : List Ty) (r : List UInt8) : SigV :=
  if r = [86] then (if 16 < acc.length then ([], false, 0, ⟨#[]⟩, 4) else (acc, true, 0, ⟨#[]⟩, 0))
  else match firstL r with
    | some (n, m, []) => if 16 < acc.length then ([], false, 0, ⟨#[]⟩, 4) else (acc, false, (n : Int), BA m, 0)
    | _ => ([], false, 0, ⟨#[]⟩, 15)
def sigP : Nat → List Ty → List UInt8 → SigV
  | _, _, [] => ([], false, 0, ⟨#[]⟩, 15)
  | 0, _, _ :: _ => ([], false, 0, ⟨#[]⟩, 15)
  | f + 1, acc, c :: t => if c = 41 then sigE acc t else match firstL (c :: t) with
    | none => ([], false, 0, ⟨#[]⟩, 15)
    | some (n, m, r) => sigP f (acc ++ [⟨(n : Int), BA m⟩]) r
def sigS : List UInt8 → SigV
  | 40 :: t => sigP t.length [] t
  | _ => ([], false, 0, ⟨#[]⟩, 15)
theorem dsig_l : ∀ (f : Nat) (acc : List Ty) (s : ByteArray), s.size ≤ f → s.size ≤ 1000000000000 → acc.length + s.size ≤ 1000000000000 → Ev (fun k => desc_Sig.l0 k s acc false 0 ⟨#[]⟩) (sigP f acc (LL s))
  | f, acc, s, hf, hs, ha => by
    have hl := LL_length s
    refine Ev.step (fun k => by rw [desc_Sig.l0]) (Ev_bindc (hasPrefix_f s 41) ?_)
    match hu : LL s, f with
    | [], f =>
      refine Ev_neg (by simp) (Ev.bind (first_f s (by omega)) ?_)
      rw [hu]
      refine Ev_neg Bool.false_ne_true ?_
      cases f <;> exact Ev.now _
    | c :: t, 0 => rw [hu] at hl; simp at hl; omega
    | c :: t, f + 1 =>
      rw [hu] at hl
      simp only [List.length_cons] at hl
      by_cases hc : c = 41
      · subst hc
        refine Ev_pos (by simp) ?_
        have hx : s.extract 1 s.size = BA t := by rw [extract_BA, hu]; rfl
        show Ev _ (sigE acc t)
        unfold sigE
        by_cases hv : t = [86]
        · rw [if_pos hv]
          refine Ev_pos (by rw [toList_LL, hu, hv]) ?_
          by_cases h16 : 16 < acc.length
          · exact Ev_pos (by omega) (by rw [if_pos h16]; exact Ev.now _)
          · exact Ev_neg (by omega) (by rw [if_neg h16]; exact Ev.now _)
        · rw [if_neg hv]
          refine Ev_neg (by rw [toList_LL, hu]; simpa using hv) (Ev_pos (by omega) ?_)
          rw [hx]
          refine Ev.bind (first_f _ (by rw [BA_size]; omega)) ?_
          rw [LL_BA]
          have bad : ∀ (x : Int) (y : ByteArray), Ev (fun k => desc_Sig.j1 k true acc false x y) (([], false, 0, ⟨#[]⟩, 15) : SigV) := fun x y => by
            refine Ev.step (fun k => by rw [desc_Sig.j1]) ?_
            exact Ev_pos rfl (Ev.now _)
          cases hfl : firstL t with
          | none => exact Ev_neg Bool.false_ne_true (bad _ _)
          | some q =>
            obtain ⟨n, m, r⟩ := q
            refine Ev_pos rfl ?_
            cases r with
            | nil =>
              have e : ((BA []).toList != ([] : List UInt8)) = false := by rw [toList_LL, LL_BA]; rfl
              show Ev (fun k => desc_Sig.j1 k ((BA []).toList != ([] : List UInt8)) acc false (n : Int) (BA m)) _
              rw [e]
              refine Ev.step (fun k => by rw [desc_Sig.j1]) (Ev_neg Bool.false_ne_true ?_)
              by_cases h16 : 16 < acc.length
              · exact Ev_pos (by omega) (by simp only; rw [if_pos h16]; exact Ev.now _)
              · exact Ev_neg (by omega) (by simp only; rw [if_neg h16]; exact Ev.now _)
            | cons x r =>
              have e : ((BA (x :: r)).toList != ([] : List UInt8)) = true := by rw [toList_LL, LL_BA]; rfl
              show Ev (fun k => desc_Sig.j1 k ((BA (x :: r)).toList != ([] : List UInt8)) acc false (n : Int) (BA m)) _
              rw [e]
              exact bad _ _
      · refine Ev_neg (by simpa using hc) (Ev.bind (first_f s (by omega)) ?_)
        rw [hu]
        simp only [sigP]
        rw [if_neg hc]
        cases hfl : firstL (c :: t) with
        | none => exact Ev_neg Bool.false_ne_true (Ev.now _)
        | some q =>
          obtain ⟨n, m, r⟩ := q
          obtain ⟨h1, h2, h3⟩ := first_len hfl
          simp only [List.length_cons] at h1
          refine Ev_pos rfl (Ev_pos (by omega) ?_)
          have ih := dsig_l f (acc ++ [⟨(n : Int), BA m⟩]) (BA r) (by rw [BA_size]; omega) (by rw [BA_size]; omega) (by rw [BA_size]; simp; omega)
          rw [LL_BA] at ih
          exact ih
theorem dsig_f (s : ByteArray) (hs : s.size ≤ 1000000000000) : Ev (fun k => desc_Sig.f k s) (sigS (LL s)) := by
  unfold desc_Sig.f
  have hl := LL_length s
  refine Ev_bindc (hasPrefix_f s 40) ?_
  cases hu : LL s with
  | nil => exact Ev_neg (by simp) (Ev.now _)
  | cons c t =>
    rw [hu] at hl
    simp only [List.length_cons] at hl
    by_cases hc : c = 40
    · subst hc
      refine Ev_pos (by simp) (Ev_pos (by omega) ?_)
      have hx : s.extract 1 s.size = BA t := by rw [extract_BA, hu]; rfl
      rw [hx]
      have := dsig_l t.length [] (BA t) (by rw [BA_size]; exact Nat.le_refl _) (by rw [BA_size]; omega) (by rw [BA_size]; simp; omega)
      rw [LL_BA] at this
      exact this
    · refine Ev_neg (by simpa using hc) ?_
      have e : sigS (c :: t) = ([], false, 0, ⟨#[]⟩, 15) := by
        unfold sigS
        split
        · rename_i h; simp at h; exact absurd h.1 hc
        · rfl
      rw [e]
      exact Ev.now _
theorem dmethod_f (s : ByteArray) (hs : s.size ≤ 140737488355328) : Ev (fun k => desc_Method.f k s) (mth s) := by
  unfold desc_Method.f mth
  by_cases h : isInit s
  · rw [if_pos h]; exact Ev_pos h (Ev.now _)
  · rw [if_neg h]; exact Ev_neg h (Ev.bind (dname_f s hs) (Ev.now _))
end Go.Proofs.YtldejfkplnejjaaDoor.Pure
namespace Go.Proofs.YtldejfkplnejjaaDoor.Pure
open Go.RowKit Go.Proofs.YtldejfkplnejjaaDoor.P Go.Proofs.YtldejfkplnejjaaDoorW.PrintWords
set_option linter.unusedVariables false
theorem letterS_d {c : Int} (h : 48 ≤ c ∧ c ≤ 57) : letterS c false = true := by unfold letterS; rw [decide_eq_true h]; simp
theorem rname_l (s : ByteArray) (hs : s.size ≤ 140737488355328) : ∀ (d j : Nat), j + d = s.size →
    Ev (fun k => keystoneref2_Name.l0 k s (j : Int)) (allL (decide (j = 0)) ((LL s).drop j))
  | 0, j, hj => by
    refine Ev.step (fun k => by rw [keystoneref2_Name.l0]) (Ev_neg (by omega) ?_)
    rw [List.drop_of_length_le (by rw [LL_length]; omega)]
    exact Ev.now _
  | d + 1, j, hj => by
    obtain ⟨c, hc⟩ := at_of (l := LL s) (j := j) (by rw [LL_length]; omega)
    rw [drop_at hc, allL]
    have hb := bt_of hc
    have ih := rname_l s hs d (j + 1) (by omega)
    rw [show decide (j + 1 = 0) = false by simp] at ih
    generalize (c.toNat : Int) = b at hb
    refine Ev.step (fun k => by rw [keystoneref2_Name.l0, hb, show wrap64 ((j : Int) + 1) = ((j + 1 : Nat) : Int) by rw [w64] <;> omega]) (Ev_pos (by omega) (Ev_pos (by omega) ?_))
    by_cases h : (97 ≤ b ∧ b ≤ 122) ∨ (65 ≤ b ∧ b ≤ 90) ∨ b = 95
    · rw [letterS_t h, Bool.true_and]
      refine Ev_ite (fun h1 => Ev_ite (fun h2 => ih) (fun h2 => Ev_ite (fun h3 => Ev_ite (fun h4 => ih) (fun h4 => ?_)) (fun h3 => Ev_pos (by omega) ih))) (fun h1 => Ev_ite (fun h3 => Ev_ite (fun h4 => ih) (fun h4 => ?_)) (fun h3 => Ev_pos (by omega) ih))
      all_goals exfalso; omega
    · have rest : Ev (fun k => if b ≥ 48 then (if b ≤ 57 then (if (j : Int) > 0 then (keystoneref2_Name.l0 k s ((j + 1 : Nat) : Int)) else (some false)) else (some false)) else (some false)) (letterS b (decide (j = 0)) && allL false ((LL s).drop (j + 1))) := by
        by_cases hd : 48 ≤ b ∧ b ≤ 57
        · refine Ev_pos hd.1 (Ev_pos hd.2 ?_)
          by_cases h0 : j = 0
          · rw [decide_eq_true h0, letterS_n h (.inl rfl)]; exact Ev_neg (by omega) (Ev.now _)
          · rw [decide_eq_false h0, letterS_d hd, Bool.true_and]; exact Ev_pos (by omega) ih
        · rw [letterS_n h (.inr hd)]
          refine Ev_ite (fun h1 => Ev_neg (by omega) (Ev.now _)) (fun h1 => Ev.now _)
      refine Ev_ite (fun h1 => Ev_neg (by omega) (Ev_ite (fun h3 => Ev_neg (by omega) (Ev_neg (by omega) rest)) (fun h3 => Ev_neg (by omega) rest))) (fun h1 => Ev_ite (fun h3 => Ev_neg (by omega) (Ev_neg (by omega) rest)) (fun h3 => Ev_neg (by omega) rest))
theorem rname_j (s : ByteArray) (b : Bool) (hs : s.size ≤ 140737488355328) : Ev (fun k => keystoneref2_Name.j0 k s b) (if b = true then false else allL true (LL s)) := by
  refine Ev.step (fun k => by rw [keystoneref2_Name.j0]) ?_
  cases b with
  | true => exact Ev_pos rfl (Ev.now _)
  | false =>
    refine Ev_neg Bool.false_ne_true ?_
    have h := rname_l s hs s.size 0 (Nat.zero_add _)
    rwa [show decide (0 = 0) = true from rfl, List.drop_zero] at h
theorem rname_f (s : ByteArray) (hs : s.size ≤ 140737488355328) : Ev (fun k => keystoneref2_Name.f k s) (nm s) := by
  unfold keystoneref2_Name.f nm nmL
  rw [LL_length]
  by_cases h : (s.size : Int) < 1
  · have e : LL s = [] := List.length_eq_zero_iff.1 (by rw [LL_length]; omega)
    have := rname_j s true hs
    rw [if_pos rfl] at this
    rw [e, show (decide (([] : List UInt8) ≠ [])) = false from rfl, Bool.false_and, Bool.and_false]
    exact Ev_pos h this
  refine Ev_neg h ?_
  have hne : LL s ≠ [] := fun e => by have := LL_length s; rw [e] at this; simp at this; omega
  have := rname_j s (decide ((s.size : Int) > 32)) hs
  refine cast (congrArg _ ?_) this
  rw [decide_eq_true hne, Bool.true_and]
  by_cases h2 : (s.size : Int) > 32
  · rw [decide_eq_true h2, if_pos rfl, decide_eq_false (by omega), Bool.and_false]
  · rw [decide_eq_false h2, if_neg Bool.false_ne_true, decide_eq_true (by omega), Bool.and_true]
theorem brk_91 (t : List UInt8) : brk (91 :: t) = brk t + 1 := by unfold brk; rw [List.takeWhile_cons_of_pos (p := (· == (91 : UInt8))) rfl]; rfl
theorem brk_no {c : UInt8} (h : c ≠ 91) (t : List UInt8) : brk (c :: t) = 0 := by unfold brk; rw [List.takeWhile_cons_of_neg (p := (· == (91 : UInt8))) (by simpa using h)]; rfl
theorem rmethod_f (s : ByteArray) (hs : s.size ≤ 140737488355328) : Ev (fun k => keystoneref2_Method.f k s) (mth s) := by
  unfold keystoneref2_Method.f mth
  by_cases h : isInit s
  · rw [if_pos h]; exact Ev_pos h (Ev.now _)
  · rw [if_neg h]; exact Ev_neg h (Ev.bind (rname_f s hs) (Ev.now _))
end Go.Proofs.YtldejfkplnejjaaDoor.Pure
namespace Go.Proofs.YtldejfkplnejjaaDoor.Pure
open Go.RowKit Go.Proofs.YtldejfkplnejjaaDoor.P Go.Proofs.YtldejfkplnejjaaDoorW.PrintWords
set_option linter.unusedVariables false
theorem LL_append (a b : ByteArray) : LL (a ++ b) = LL a ++ LL b := by simp [LL]
def chk (d : Int) (s : ByteArray) : Int := if d < 0 ∨ 8 < d then 1 else if s.toList = ([] : List UInt8) then 0 else if nm s = true then 0 else 14
theorem nm_le {s : ByteArray} (h : nm s = true) : s.size ≤ 32 := by
  unfold nm nmL at h
  simp only [Bool.and_eq_true, decide_eq_true_eq] at h
  rw [← LL_length]; exact h.2.2
theorem dcheck_j (d : Int) (s : ByteArray) (hs : s.size ≤ 140737488355328) (b : Bool) : Ev (fun k => desc_Check.j0 k b d s) (if b = true then 1 else if s.toList = ([] : List UInt8) then 0 else if nm s = true then 0 else 14) := by
  refine Ev.step (fun k => by rw [desc_Check.j0]) ?_
  cases b with
  | true => exact Ev_pos rfl (Ev.now _)
  | false =>
    refine Ev_neg Bool.false_ne_true ?_
    rw [if_neg Bool.false_ne_true]
    by_cases h : s.toList = ([] : List UInt8)
    · exact Ev_pos h (by rw [if_pos h]; exact Ev.now _)
    refine Ev_neg h ?_
    rw [if_neg h]
    refine (Ev.bind (dname_f s hs) ?_)
    by_cases h2 : nm s = true
    · exact Ev_pos h2 (by rw [if_pos h2]; exact Ev.now _)
    · exact Ev_neg h2 (by rw [if_neg h2]; exact Ev.now _)
theorem dcheck_f (d : Int) (s : ByteArray) (hs : s.size ≤ 140737488355328) : Ev (fun k => desc_Check.f k d s) (chk d s) := by
  unfold desc_Check.f chk
  have j := dcheck_j d s hs
  by_cases h : d < 0
  · rw [if_pos (.inl h)]; exact Ev_pos h (by simpa using j true)
  refine Ev_neg h ?_
  by_cases h2 : d > 8
  · rw [if_pos (.inr h2), decide_eq_true h2]; simpa using j true
  · rw [if_neg (by omega), decide_eq_false h2]; simpa using j false
theorem rtcheck_j (d : Int) (s : ByteArray) (hs : s.size ≤ 140737488355328) (b : Bool) : Ev (fun k => keystoneref2_Check.j0 k b d s) (if b = true then 1 else if s.toList = ([] : List UInt8) then 0 else if nm s = true then 0 else 14) := by
  refine Ev.step (fun k => by rw [keystoneref2_Check.j0]) ?_
  cases b with
  | true => exact Ev_pos rfl (Ev.now _)
  | false =>
    refine Ev_neg Bool.false_ne_true ?_
    rw [if_neg Bool.false_ne_true]
    by_cases h : s.toList = ([] : List UInt8)
    · exact Ev_pos h (by rw [if_pos h]; exact Ev.now _)
    refine Ev_neg h ?_
    rw [if_neg h]
    refine (Ev.bind (rname_f s hs) ?_)
    by_cases h2 : nm s = true
    · exact Ev_pos h2 (by rw [if_pos h2]; exact Ev.now _)
    · exact Ev_neg h2 (by rw [if_neg h2]; exact Ev.now _)
theorem rtcheck_f (d : Int) (s : ByteArray) (hs : s.size ≤ 140737488355328) : Ev (fun k => keystoneref2_Check.f k d s) (chk d s) := by
  unfold keystoneref2_Check.f chk
  have j := rtcheck_j d s hs
  by_cases h : d < 0
  · rw [if_pos (.inl h)]; exact Ev_pos h (by simpa using j true)
  refine Ev_neg h ?_
  by_cases h2 : d > 8
  · rw [if_pos (.inr h2), decide_eq_true h2]; simpa using j true
  · rw [if_neg (by omega), decide_eq_false h2]; simpa using j false
theorem chk_0 {d : Int} {s : ByteArray} (h : chk d s = 0) : 0 ≤ d ∧ d ≤ 8 ∧ s.size ≤ 32 ∧ (s.toList = [] ∨ nm s = true) := by
  unfold chk at h
  by_cases h0 : d < 0 ∨ 8 < d
  · rw [if_pos h0] at h; cases h
  rw [if_neg h0] at h
  by_cases h1 : s.toList = ([] : List UInt8)
  · refine ⟨by omega, by omega, ?_, .inl h1⟩
    rw [toList_LL] at h1
    have := LL_length s
    rw [h1] at this
    simp at this; omega
  rw [if_neg h1] at h
  by_cases h2 : nm s = true
  · exact ⟨by omega, by omega, nm_le h2, .inr h2⟩
  · rw [if_neg h2] at h; cases h
theorem BA_LL (s : ByteArray) : BA (LL s) = s := LL_inj (LL_BA _)
def bodyL (m : List UInt8) : List UInt8 := if m = [] then [73] else 76 :: m ++ [59]
def textL (d : Nat) (m : List UInt8) : List UInt8 := List.replicate d 91 ++ bodyL m
def textS (d : Int) (s : ByteArray) : ByteArray × Int := if chk d s = 0 then (BA (textL d.toNat (LL s)), 0) else (⟨#[]⟩, chk d s)
theorem BA_append (a b : List UInt8) : BA a ++ BA b = BA (a ++ b) := LL_inj (by rw [LL_append, LL_BA, LL_BA, LL_BA])
theorem repeatL_one (c : UInt8) : ∀ n : Nat, Lib.repeatL [c] n = List.replicate n c
  | 0 => by simp [Lib.repeatL]
  | n + 1 => by
    have ih := repeatL_one c n
    simp only [Lib.repeatL, List.replicate_succ] at ih ⊢
    rw [ih]; rfl
theorem dtext_f (d : Int) (s : ByteArray) (hs : s.size ≤ 140737488355328) : Ev (fun k => desc_TypeText.f k d s) (textS d s) := by
  unfold desc_TypeText.f textS
  refine Ev.bind (dcheck_f d s hs) ?_
  by_cases h : chk d s = 0
  · rw [h]
    obtain ⟨h0, h1, h2, h3⟩ := chk_0 h
    have hl := LL_length s
    have hr : strings_Repeat.f (⟨#[91]⟩ : ByteArray) d = some (BA (List.replicate d.toNat 91)) := by
      unfold strings_Repeat.f
      rw [if_pos ⟨rfl, h0, by omega⟩]
      congr 1
      show BA (Lib.repeatL [91] d.toNat) = _
      rw [repeatL_one]
    refine Ev_pos rfl (Ev_bindc hr ?_)
    have hsz : (BA (List.replicate d.toNat (91 : UInt8))).size ≤ 8 := by rw [BA_size, List.length_replicate]; omega
    rw [if_pos rfl]
    by_cases h4 : s.toList = ([] : List UInt8)
    · refine Ev_pos h4 (Ev_pos (by omega) (Ev_const ?_))
      rw [toList_LL] at h4
      unfold textL bodyL
      rw [h4, if_pos rfl, show (⟨#[73]⟩ : ByteArray) = BA [73] from rfl, BA_append]
    · rw [show (⟨#[76]⟩ : ByteArray) = BA [76] from rfl, show (⟨#[59]⟩ : ByteArray) = BA [59] from rfl]
      have e : ((BA (List.replicate d.toNat (91 : UInt8)) ++ BA [76]) ++ s) ++ BA [59] = BA (textL d.toNat (LL s)) := by
        rw [toList_LL] at h4
        unfold textL bodyL
        rw [if_neg h4]
        conv => lhs; rw [← BA_LL s]
        rw [BA_append, BA_append, BA_append]
        simp
      refine Ev_neg h4 (Ev_pos (by omega) (Ev_pos ?_ (Ev_pos ?_ (Ev_const (by rw [e])))))
      · rw [BA_append, BA_size, List.length_append, List.length_replicate]; simp; omega
      · conv => lhs; rw [← BA_LL s]
        rw [BA_append, BA_append, BA_size]; simp; omega
  · exact Ev_neg h (by rw [if_neg h]; exact Ev.now _)
def parE : List Ty → Int
  | [] => 0
  | t :: l => if chk t.f0 t.f1 = 0 then parE l else chk t.f0 t.f1
def parT : List Ty → List UInt8
  | [] => []
  | t :: l => textL t.f0.toNat (LL t.f1) ++ parT l
theorem parT_append : ∀ a b : List Ty, parT (a ++ b) = parT a ++ parT b
  | [], b => rfl
  | t :: a, b => by rw [List.cons_append, parT, parT, parT_append a b, List.append_assoc]
theorem textL_len (d : Int) (s : ByteArray) (h : chk d s = 0) : (textL d.toNat (LL s)).length ≤ 50 := by
  obtain ⟨h0, h1, h2, h3⟩ := chk_0 h
  have hl := LL_length s
  unfold textL bodyL
  rw [List.length_append, List.length_replicate]
  split <;> simp <;> omega
theorem parT_len : ∀ l : List Ty, parE l = 0 → (parT l).length ≤ 50 * l.length
  | [], _ => Nat.zero_le _
  | t :: l, h => by
    unfold parE at h
    split at h
    · rename_i hc
      have := textL_len _ _ hc
      have := parT_len l h
      simp only [parT, List.length_append, List.length_cons]
      omega
    · rename_i hc; exact absurd h hc
theorem parE_append : ∀ a b : List Ty, parE a = 0 → parE (a ++ b) = parE b
  | [], b, _ => rfl
  | t :: a, b, h => by
    unfold parE at h
    split at h
    · rename_i hc
      rw [List.cons_append, parE, if_pos hc]
      exact parE_append a b h
    · rename_i hc; exact absurd h hc
def sigT (ps : List Ty) (v : Bool) (d : Int) (m : ByteArray) : ByteArray × Int :=
  if 16 < ps.length then (⟨#[]⟩, 4) else if parE ps = 0 then
    (if v = true then (if d = 0 ∧ LL m = [] then (BA (40 :: parT ps ++ [41, 86]), 0) else (⟨#[]⟩, 1))
     else if chk d m = 0 then (BA (40 :: parT ps ++ 41 :: textL d.toNat (LL m)), 0) else (⟨#[]⟩, chk d m))
  else (⟨#[]⟩, parE ps)
theorem sigT_16 {ps : List Ty} {v : Bool} {d : Int} {m : ByteArray} (h : 16 < ps.length) : sigT ps v d m = (⟨#[]⟩, 4) := by unfold sigT; rw [if_pos h]
theorem sigT_e {ps : List Ty} {v : Bool} {d : Int} {m : ByteArray} (h : ps.length ≤ 16) (hp : parE ps ≠ 0) : sigT ps v d m = (⟨#[]⟩, parE ps) := by unfold sigT; rw [if_neg (Nat.not_lt.2 h), if_neg hp]
theorem sigT_t0 {ps : List Ty} {d : Int} {m : ByteArray} (h : ps.length ≤ 16) (hp : parE ps = 0) (h0 : d = 0 ∧ LL m = []) : sigT ps true d m = (BA (40 :: parT ps ++ [41, 86]), 0) := by unfold sigT; rw [if_neg (Nat.not_lt.2 h), if_pos hp, if_pos rfl, if_pos h0]
theorem sigT_t1 {ps : List Ty} {d : Int} {m : ByteArray} (h : ps.length ≤ 16) (hp : parE ps = 0) (h0 : ¬ (d = 0 ∧ LL m = [])) : sigT ps true d m = (⟨#[]⟩, 1) := by unfold sigT; rw [if_neg (Nat.not_lt.2 h), if_pos hp, if_pos rfl, if_neg h0]
theorem sigT_f0 {ps : List Ty} {d : Int} {m : ByteArray} (h : ps.length ≤ 16) (hp : parE ps = 0) (h0 : chk d m = 0) : sigT ps false d m = (BA (40 :: parT ps ++ 41 :: textL d.toNat (LL m)), 0) := by unfold sigT; rw [if_neg (Nat.not_lt.2 h), if_pos hp, if_neg Bool.false_ne_true, if_pos h0]
theorem sigT_f1 {ps : List Ty} {d : Int} {m : ByteArray} (h : ps.length ≤ 16) (hp : parE ps = 0) (h0 : chk d m ≠ 0) : sigT ps false d m = (⟨#[]⟩, chk d m) := by unfold sigT; rw [if_neg (Nat.not_lt.2 h), if_pos hp, if_neg Bool.false_ne_true, if_neg h0]
theorem textS_0 {d : Int} {m : ByteArray} (h0 : chk d m = 0) : textS d m = (BA (textL d.toNat (LL m)), 0) := by unfold textS; rw [if_pos h0]
theorem textS_1 {d : Int} {m : ByteArray} (h0 : chk d m ≠ 0) : textS d m = (⟨#[]⟩, chk d m) := by unfold textS; rw [if_neg h0]
theorem res0 (d : Int) (m : ByteArray) : (!(d == 0) || (!(m.toList == ([] : List UInt8)))) = !(decide (d = 0 ∧ LL m = [])) := by
  rw [toList_LL]
  by_cases h : d = 0 <;> by_cases h' : LL m = [] <;> simp [h, h']
theorem put41 (l r : List UInt8) : (BA l ++ (⟨#[41]⟩ : ByteArray)) ++ BA r = BA (l ++ 41 :: r) := by
  rw [show (⟨#[41]⟩ : ByteArray) = BA [41] from rfl, BA_append, BA_append, List.append_assoc]; rfl
theorem rdT (ps : List Ty) {j : Nat} {t : Ty} (h : ps[j]? = some t) : rd_T34 ps (j : Int) = t := getD_at rfl h
theorem dsigt_e (ps : List Ty) (v : Bool) (d : Int) (m : ByteArray) (hm : m.size ≤ 140737488355328) (h16 : ps.length ≤ 16) (hp : parE ps = 0) : Ev (fun k => desc_SigText.j1 k (BA (40 :: parT ps)) (if v = true then !(decide (d = 0 ∧ LL m = [])) else false) ps v d m) (sigT ps v d m) := by
  have hpl := parT_len ps hp
  refine Ev.step (fun k => by rw [desc_SigText.j1]) ?_
  have s1 : (BA (40 :: parT ps)).size ≤ 1000 := by rw [BA_size, List.length_cons]; omega
  have s2 : (BA (40 :: parT ps) ++ (⟨#[41]⟩ : ByteArray)).size ≤ 1001 := by rw [ByteArray.size_append]; exact Nat.add_le_add s1 (Nat.le_refl 1)
  cases v with
  | true =>
    by_cases h0 : d = 0 ∧ LL m = []
    · rw [if_pos rfl, decide_eq_true h0, sigT_t0 h16 hp h0]
      have hm0 : m = ⟨#[]⟩ := LL_inj h0.2
      obtain ⟨rfl, _⟩ := h0
      subst hm0
      refine Ev_neg (by simp) (Ev.bind (dtext_f _ _ (by decide)) ?_)
      refine Ev_pos (show (textS 0 ⟨#[]⟩).2 = 0 by decide +kernel) (Ev_pos rfl (Ev_pos (by omega) (Ev_pos (by omega) (Ev_const ?_))))
      rw [show (⟨#[86]⟩ : ByteArray) = BA [86] from rfl, put41]
    · rw [if_pos rfl, decide_eq_false h0, sigT_t1 h16 hp h0]
      exact Ev_pos rfl (Ev.now _)
  | false =>
    refine Ev_neg (by simp) (Ev.bind (dtext_f _ _ hm) ?_)
    by_cases hc : chk d m = 0
    · rw [textS_0 hc, sigT_f0 h16 hp hc]
      have := textL_len _ _ hc
      exact Ev_pos rfl (Ev_neg Bool.false_ne_true (Ev_pos (by omega) (Ev_pos (by simp only [BA_size] at *; omega) (Ev_const (by rw [put41])))))
    · rw [textS_1 hc, sigT_f1 h16 hp hc]
      exact Ev_neg hc (Ev.now _)
theorem dsigt_l (v : Bool) (d : Int) (m : ByteArray) (hm : m.size ≤ 140737488355328) (ps : List Ty) (hz : ∀ t ∈ ps, t.f1.size ≤ 140737488355328) (h16 : ps.length ≤ 16) : ∀ (c : Nat) (a b : List Ty), b.length = c → ps = a ++ b → parE a = 0 →
    Ev (fun k => desc_SigText.l0 k (BA (40 :: parT a)) ps (ps.length : Int) (a.length : Int) ps v d m) (sigT ps v d m)
  | 0, a, b, hc, hab, ha => by
    have hb : b = [] := List.length_eq_zero_iff.1 hc
    subst hb
    rw [List.append_nil] at hab
    subst hab
    have h := dsigt_e ps v d m hm h16 ha
    refine Ev.step (fun k => by rw [desc_SigText.l0]) (Ev_neg (by omega) ?_)
    cases v with
    | true => exact Ev_pos rfl (by rw [res0]; exact h)
    | false => exact Ev_neg Bool.false_ne_true h
  | c + 1, a, [], hc, hab, ha => by simp at hc
  | c + 1, a, t :: b, hc, hab, ha => by
    have hlen : ps.length = a.length + (b.length + 1) := by rw [hab]; simp
    have hat : ps[a.length]? = some t := by rw [hab]; simp
    have hin : t ∈ ps := by rw [hab]; simp
    have hpl := parT_len a ha
    have hw : wrap64 ((a.length : Int) + 1) = ((a ++ [t]).length : Int) := by rw [w64 (by omega) (by omega)]; simp
    refine Ev.step (fun k => by rw [desc_SigText.l0, rdT ps hat, hw]) (Ev_pos (by omega) (Ev_pos (by omega) (Ev_pos (by omega) (Ev.bind (dtext_f _ _ (hz t hin)) ?_))))
    by_cases hk : chk t.f0 t.f1 = 0
    · rw [textS_0 hk]
      have := textL_len _ _ hk
      refine Ev_pos rfl (Ev_pos (by simp only [BA_size, List.length_cons]; omega) ?_)
      have ih := dsigt_l v d m hm ps hz h16 c (a ++ [t]) b (by simpa using hc) (by rw [hab]; simp) (by rw [parE_append a _ ha, parE, if_pos hk]; rfl)
      rw [parT_append, show parT [t] = textL t.f0.toNat (LL t.f1) by simp [parT]] at ih
      rw [BA_append]
      exact ih
    · rw [textS_1 hk]
      have e : parE ps = chk t.f0 t.f1 := by rw [hab, parE_append a _ ha, parE, if_neg hk]
      rw [sigT_e h16 (by rw [e]; exact hk), e]
      exact Ev_neg hk (Ev.now _)
theorem dsigt_f (ps : List Ty) (v : Bool) (d : Int) (m : ByteArray) (hm : m.size ≤ 140737488355328) (hz : ∀ t ∈ ps, t.f1.size ≤ 140737488355328) : Ev (fun k => desc_SigText.f k ps v d m) (sigT ps v d m) := by
  unfold desc_SigText.f
  by_cases h16 : 16 < ps.length
  · rw [sigT_16 h16]; exact Ev_pos (by omega) (Ev.now _)
  · exact Ev_neg (by omega) (dsigt_l v d m hm ps hz (by omega) _ [] ps rfl rfl rfl)
set_option linter.unusedVariables false
theorem pre_l (d : Int) (s : ByteArray) (m : List UInt8) (hm : m.length ≤ 1000) (hd : d ≤ 8) : ∀ (c j : Nat), (j : Int) + c = d → Ev (fun k => keystoneref2_TypeText.l0 k (BA (List.replicate j 91 ++ m)) (j : Int) d s) ((BA (List.replicate (j + c) 91 ++ m), 0) : ByteArray × Int)
  | 0, j, hj => by
    refine Ev.step (fun k => by rw [keystoneref2_TypeText.l0]) (Ev_neg (by omega) ?_)
    exact Ev.now _
  | c + 1, j, hj => by
    refine Ev.step (fun k => by rw [keystoneref2_TypeText.l0]) (Ev_pos (by omega) (Ev_pos (by rw [BA_size]; simp; omega) ?_))
    rw [show wrap64 ((j : Int) + 1) = ((j + 1 : Nat) : Int) by rw [w64] <;> omega, show (⟨#[91]⟩ : ByteArray) = BA [91] from rfl, BA_append]
    have ih := pre_l d s m hm hd c (j + 1) (by omega)
    rw [show j + (c + 1) = j + 1 + c by omega]
    rwa [show ([91] : List UInt8) ++ (List.replicate j 91 ++ m) = List.replicate (j + 1) 91 ++ m by simp [List.replicate_succ]]
theorem rttext_f (d : Int) (s : ByteArray) (hs : s.size ≤ 140737488355328) : Ev (fun k => keystoneref2_TypeText.f k d s) (textS d s) := by
  unfold keystoneref2_TypeText.f textS
  refine Ev.bind (rtcheck_f d s hs) ?_
  by_cases h : chk d s = 0
  · rw [h]
    obtain ⟨h0, h1, h2, h3⟩ := chk_0 h
    have hl := LL_length s
    refine Ev_pos rfl ?_
    rw [if_pos rfl]
    have run : ∀ m : List UInt8, m.length ≤ 1000 → Ev (fun k => keystoneref2_TypeText.j0 k (BA m) d s) ((BA (List.replicate d.toNat 91 ++ m), 0) : ByteArray × Int) := fun m hm => by
      refine Ev.step (fun k => by rw [keystoneref2_TypeText.j0]) ?_
      have := pre_l d s m hm h1 d.toNat 0 (by omega)
      rw [Nat.zero_add] at this
      exact this
    by_cases h4 : s.toList = ([] : List UInt8)
    · refine Ev_pos h4 ?_
      have := run [73] (by simp)
      rw [toList_LL] at h4
      unfold textL bodyL
      rw [h4, if_pos rfl]
      exact this
    · have e : (BA [76] ++ s) ++ BA [59] = BA (76 :: LL s ++ [59]) := by
        conv => lhs; rw [← BA_LL s]
        rw [BA_append, BA_append]; rfl
      rw [show (⟨#[76]⟩ : ByteArray) = BA [76] from rfl, show (⟨#[59]⟩ : ByteArray) = BA [59] from rfl, e]
      refine Ev_neg h4 (Ev_pos (by omega) (Ev_pos ?_ ?_))
      · conv => lhs; rw [← BA_LL s]
        rw [BA_append, BA_size]; simp; omega
      · have := run (76 :: LL s ++ [59]) (by simp; omega)
        rw [toList_LL] at h4
        unfold textL bodyL
        rw [if_neg h4]
        exact this
  · exact Ev_neg h (by rw [if_neg h]; exact Ev.now _)
theorem rsigt_l (v : Bool) (d : Int) (m : ByteArray) (hm : m.size ≤ 140737488355328) (ps : List Ty) (hz : ∀ t ∈ ps, t.f1.size ≤ 140737488355328) (h16 : ps.length ≤ 16) : ∀ (c : Nat) (a b : List Ty), b.length = c → ps = a ++ b → parE a = 0 →
    Ev (fun k => keystoneref2_SigText.l0 k (BA (40 :: parT a)) (a.length : Int) ps v d m) (sigT ps v d m)
  | 0, a, b, hc, hab, ha => by
    have hb : b = [] := List.length_eq_zero_iff.1 hc
    subst hb
    rw [List.append_nil] at hab
    subst hab
    have hpl := parT_len ps ha
    have s1 : (BA (40 :: parT ps)).size ≤ 1000 := by rw [BA_size, List.length_cons]; omega
    have s2 : (BA (40 :: parT ps) ++ (⟨#[41]⟩ : ByteArray)).size ≤ 1001 := by rw [ByteArray.size_append]; exact Nat.add_le_add s1 (Nat.le_refl 1)
    refine Ev.step (fun k => by rw [keystoneref2_SigText.l0, res0]) (Ev_neg (by omega) ?_)
    cases v with
    | true =>
      refine Ev_pos rfl ?_
      by_cases h0 : d = 0 ∧ LL m = []
      · rw [decide_eq_true h0, sigT_t0 h16 ha h0]
        refine Ev_neg (by simp) (Ev_pos (by omega) (Ev_const ?_))
        rw [show (⟨#[41, 86]⟩ : ByteArray) = BA [41, 86] from rfl, BA_append]
      · rw [decide_eq_false h0, sigT_t1 h16 ha h0]
        exact Ev_pos rfl (Ev.now _)
    | false =>
      refine Ev_neg Bool.false_ne_true (Ev.bind (rttext_f _ _ hm) ?_)
      by_cases hc : chk d m = 0
      · rw [textS_0 hc, sigT_f0 h16 ha hc]
        have := textL_len _ _ hc
        exact Ev_pos rfl (Ev_pos (by omega) (Ev_pos (by simp only [BA_size] at *; omega) (Ev_const (by rw [put41]))))
      · rw [textS_1 hc, sigT_f1 h16 ha hc]
        exact Ev_neg hc (Ev.now _)
  | c + 1, a, [], hc, hab, ha => by simp at hc
  | c + 1, a, t :: b, hc, hab, ha => by
    have hlen : ps.length = a.length + (b.length + 1) := by rw [hab]; simp
    have hat : ps[a.length]? = some t := by rw [hab]; simp
    have hin : t ∈ ps := by rw [hab]; simp
    have hpl := parT_len a ha
    have hw : wrap64 ((a.length : Int) + 1) = ((a ++ [t]).length : Int) := by rw [w64 (by omega) (by omega)]; simp
    refine Ev.step (fun k => by rw [keystoneref2_SigText.l0, rdT ps hat, hw]) (Ev_pos (by omega) (Ev_pos (by omega) (Ev.bind (rttext_f _ _ (hz t hin)) ?_)))
    by_cases hk : chk t.f0 t.f1 = 0
    · rw [textS_0 hk]
      have := textL_len _ _ hk
      refine Ev_pos rfl (Ev_pos (by simp only [BA_size, List.length_cons]; omega) ?_)
      have ih := rsigt_l v d m hm ps hz h16 c (a ++ [t]) b (by simpa using hc) (by rw [hab]; simp) (by rw [parE_append a _ ha, parE, if_pos hk]; rfl)
      rw [parT_append, show parT [t] = textL t.f0.toNat (LL t.f1) by simp [parT]] at ih
      rw [BA_append]
      exact ih
    · rw [textS_1 hk]
      have e : parE ps = chk t.f0 t.f1 := by rw [hab, parE_append a _ ha, parE, if_neg hk]
      rw [sigT_e h16 (by rw [e]; exact hk), e]
      exact Ev_neg hk (Ev.now _)
theorem rsigt_f (ps : List Ty) (v : Bool) (d : Int) (m : ByteArray) (hm : m.size ≤ 140737488355328) (hz : ∀ t ∈ ps, t.f1.size ≤ 140737488355328) : Ev (fun k => keystoneref2_SigText.f k ps v d m) (sigT ps v d m) := by
  unfold keystoneref2_SigText.f
  by_cases h16 : 16 < ps.length
  · rw [sigT_16 h16]; exact Ev_pos (by omega) (Ev.now _)
  · exact Ev_neg (by omega) (rsigt_l v d m hm ps hz (by omega) _ [] ps rfl rfl rfl)
end Go.Proofs.YtldejfkplnejjaaDoor.Pure
namespace Go.Proofs.YtldejfkplnejjaaDoor.Pure
open Go.RowKit Go.Proofs.YtldejfkplnejjaaDoor.P Go.Proofs.YtldejfkplnejjaaDoorW.PrintWords
set_option linter.unusedVariables false
theorem brk_rep (l : List UInt8) : ∀ n : Nat, brk (List.replicate n 91 ++ l) = n + brk l
  | 0 => by simp
  | n + 1 => by rw [List.replicate_succ, List.cons_append, brk_91, brk_rep l n]; omega
theorem letter_59 (f : Bool) : letterS 59 f = false := by cases f <;> decide
theorem allL_59 : ∀ (f : Bool) (l : List UInt8), allL f l = true → ∀ c ∈ l, (c != 59) = true
  | f, [], _, c, hc => by cases hc
  | f, x :: l, h, c, hc => by
    rw [allL, Bool.and_eq_true] at h
    rcases List.mem_cons.1 hc with rfl | hc
    · rw [bne_iff_ne]
      rintro rfl
      have := letter_59 f
      rw [show (((59 : UInt8).toNat : Nat) : Int) = 59 from rfl, this] at h
      exact absurd h.1 Bool.false_ne_true
    · exact allL_59 false l h.2 c hc
theorem semi_put (m r : List UInt8) (h : ∀ c ∈ m, (c != 59) = true) : semi (m ++ 59 :: r) = m.length := by
  unfold semi
  rw [List.takeWhile_append_of_pos h, List.takeWhile_cons_of_neg (by simp), List.append_nil]
theorem first_text (d : Int) (s : ByteArray) (h : chk d s = 0) (r : List UInt8) : firstL (textL d.toNat (LL s) ++ r) = some (d.toNat, LL s, r) := by
  obtain ⟨h0, h1, h2, h3⟩ := chk_0 h
  rw [toList_LL] at h3
  unfold textL bodyL
  by_cases hm : LL s = []
  · rw [if_pos hm, List.append_assoc]
    unfold firstL
    rw [brk_rep, show brk ([73] ++ r) = 0 from brk_no (by decide) _, Nat.add_zero, if_neg (by omega), List.drop_left' (by simp)]
    simp only [List.cons_append, List.nil_append, if_true]
    rw [hm]
  · have hnm : nmL (LL s) = true := by rcases h3 with h3 | h3; · exact absurd h3 hm
                                       · exact h3
    have h59 : ∀ c ∈ LL s, (c != 59) = true := allL_59 true _ (by unfold nmL at hnm; rw [Bool.and_eq_true] at hnm; exact hnm.1)
    rw [if_neg hm, List.append_assoc]
    unfold firstL
    rw [show 76 :: LL s ++ [59] ++ r = 76 :: (LL s ++ 59 :: r) by simp]
    rw [brk_rep, show brk (76 :: (LL s ++ 59 :: r)) = 0 from brk_no (by decide) _, Nat.add_zero, if_neg (by omega), List.drop_left' (by simp)]
    simp only
    rw [if_neg (by decide), if_pos trivial, semi_put _ _ h59]
    rw [List.take_left' rfl, show LL s ++ 59 :: r = (LL s ++ [59]) ++ r by simp, List.drop_left' (by simp), if_pos ⟨by simp, hnm⟩]
theorem type_text (d : Int) (s : ByteArray) (h : chk d s = 0) : typeL (textL d.toNat (LL s)) = (d, s, 0) := by
  have := first_text d s h []
  rw [List.append_nil] at this
  unfold typeL
  rw [this]
  simp only
  rw [BA_LL, Int.toNat_of_nonneg (chk_0 h).1]
theorem textL_head (n : Nat) (m : List UInt8) : ∃ c t, textL n m = c :: t ∧ c ≠ 41 ∧ c ≠ 86 := by
  unfold textL bodyL
  cases n with
  | zero =>
    by_cases h : m = []
    · exact ⟨73, [], by simp [h], by decide, by decide⟩
    · exact ⟨76, m ++ [59], by simp [h], by decide, by decide⟩
  | succ n => exact ⟨91, _, by rw [List.replicate_succ, List.cons_append], by decide, by decide⟩
theorem sigP_text (e : List UInt8) : ∀ (ps : List Ty) (f : Nat) (acc : List Ty), parE ps = 0 → (parT ps).length < f → sigP f acc (parT ps ++ 41 :: e) = sigE (acc ++ ps) e
  | [], 0, acc, _, hf => by simp at hf
  | [], f + 1, acc, _, hf => by simp [parT, sigP]
  | t :: ps, 0, acc, _, hf => by simp at hf
  | t :: ps, f + 1, acc, hp, hf => by
    obtain ⟨c, r, hc, h41, _⟩ := textL_head t.f0.toNat (LL t.f1)
    unfold parE at hp
    split at hp
    · rename_i hk
      have h1 := first_text t.f0 t.f1 hk (parT ps ++ 41 :: e)
      rw [parT, List.append_assoc]
      rw [parT, List.length_append, hc, List.length_cons] at hf
      rw [hc, List.cons_append] at h1 ⊢
      simp only [sigP]
      rw [if_neg h41, h1]
      simp only
      rw [sigP_text e ps f _ hp (by omega), BA_LL, Int.toNat_of_nonneg (chk_0 hk).1, List.append_assoc]
      rfl
    · rename_i hk; exact absurd hp hk
theorem sig_text (ps : List Ty) (v : Bool) (d : Int) (m : ByteArray) (h : (sigT ps v d m).2 = 0) : sigS (LL (sigT ps v d m).1) = (ps, v, d, m, 0) := by
  unfold sigT at h ⊢
  by_cases h16 : 16 < ps.length
  · rw [if_pos h16] at h; exact absurd h (by simp)
  rw [if_neg h16] at h ⊢
  by_cases hp : parE ps = 0
  · rw [if_pos hp] at h ⊢
    have main : ∀ e, sigS (40 :: (parT ps ++ 41 :: e)) = sigE ps e := fun e => by
      show sigP (parT ps ++ 41 :: e).length [] (parT ps ++ 41 :: e) = _
      rw [sigP_text e ps _ [] hp (by simp)]; rfl
    cases v with
    | true =>
      rw [if_pos rfl] at h ⊢
      by_cases h0 : d = 0 ∧ LL m = []
      · rw [if_pos h0] at h ⊢
        simp only
        rw [LL_BA, show 40 :: parT ps ++ [41, 86] = 40 :: (parT ps ++ 41 :: [86]) by simp, main]
        unfold sigE
        rw [if_pos rfl, if_neg h16, h0.1, show m = ⟨#[]⟩ from LL_inj h0.2]
      · rw [if_neg h0] at h; exact absurd h (by simp)
    | false =>
      rw [if_neg Bool.false_ne_true] at h ⊢
      by_cases hc : chk d m = 0
      · rw [if_pos hc] at h ⊢
        simp only
        rw [LL_BA, List.cons_append, main]
        unfold sigE
        obtain ⟨c, r, hc', _, h86⟩ := textL_head d.toNat (LL m)
        have hf := first_text d m hc []
        rw [List.append_nil] at hf
        rw [if_neg (by rw [hc']; simp [h86]), hf]
        simp only
        rw [if_neg h16, BA_LL, Int.toNat_of_nonneg (chk_0 hc).1]
      · rw [if_neg hc] at h; exact absurd h hc
  · rw [if_neg hp] at h; exact absurd h hp
end Go.Proofs.YtldejfkplnejjaaDoor.Pure
namespace Go.Proofs.YtldejfkplnejjaaDoor.Pure
open Go.RowKit Go.Proofs.YtldejfkplnejjaaDoor.P Go.Proofs.YtldejfkplnejjaaDoorW.PrintWords
set_option linter.unusedVariables false
abbrev En := S50
def kindS (l : List En) (i w : Int) : Option En := if 0 ≤ i then (match l[i.toNat]? with | some x => if x.f0 = w then some x else none | none => none) else none
def kindV : Option En → Int × ByteArray × Int × Int × Int × Int × Int
  | some x => (x.f0, x.f1, x.f2, x.f3, x.f4, x.f5, 0)
  | none => (0, ⟨#[]⟩, 0, 0, 0, 0, 16)
theorem rdE {l : List En} {i : Int} {x : En} (h0 : 0 ≤ i) (h : l[i.toNat]? = some x) : rd_T50 l i = x := by
  have : i = ((i.toNat : Nat) : Int) := by omega
  exact getD_at this h
theorem kindS_in {l : List En} {i w : Int} {x : En} (h : kindS l i w = some x) : x ∈ l ∧ 0 ≤ i ∧ i < l.length ∧ l[i.toNat]? = some x ∧ x.f0 = w := by
  unfold kindS at h
  split at h
  · rename_i h0
    split at h
    · rename_i y hy
      split at h
      · rename_i hw
        obtain rfl := Option.some.inj h
        exact ⟨List.mem_of_getElem? hy, h0, by have := (List.getElem?_eq_some_iff.1 hy).1; omega, hy, hw⟩
      · cases h
    · cases h
  · cases h
theorem kind_f (l : List En) (i w : Int) : pool_kind.f l i w = some (kindV (kindS l i w)) := by
  unfold pool_kind.f
  by_cases h0 : i < 0
  · rw [if_pos h0]; unfold kindS; rw [if_neg (by omega)]; rfl
  rw [if_neg h0]
  by_cases h1 : i ≥ (l.length : Int)
  · rw [if_pos h1]; unfold kindS; rw [if_pos (by omega), List.getElem?_eq_none (by omega)]; rfl
  have hp0 : 0 ≤ i := by omega
  rw [if_neg h1, if_pos hp0, if_pos (show i < (l.length : Int) by omega)]
  obtain ⟨x, hx⟩ := at_of (l := l) (j := i.toNat) (by omega)
  rw [rdE hp0 hx]
  have hk : kindS l i w = if x.f0 = w then some x else none := by
    unfold kindS
    rw [if_pos hp0, hx]
  rw [hk]
  by_cases hw : x.f0 = w
  · rw [if_pos hw, if_pos hw]; rfl
  · rw [if_neg hw, if_neg hw]; rfl
def Small (l : List En) : Prop := ∀ x ∈ l, x.f1.size ≤ 1000000000
def namedS (m : Bool) (l : List En) (i : Int) : Int := match kindS l i 1 with
  | none => 16
  | some x => if (if m = true then mth x.f1 else nm x.f1) = true then 0 else 14
def typedS (l : List En) (i : Int) : Int := match kindS l i 1 with
  | none => 16
  | some x => (typeL (LL x.f1)).2.2
def signedS (l : List En) (i : Int) : Int := match kindS l i 1 with
  | none => 16
  | some x => (sigS (LL x.f1)).2.2.2.2
theorem named_f (m : Bool) (l : List En) (hl : Small l) (i : Int) : Ev (fun k => pool_named.f k m l i) (namedS m l i) := by
  unfold pool_named.f namedS
  refine Ev_bindc (kind_f l i 1) ?_
  cases h : kindS l i 1 with
  | none => exact Ev_neg (show ¬ ((16 : Int) = 0) by omega) (Ev.now _)
  | some x =>
    have hs := hl x (kindS_in h).1
    refine Ev_pos rfl ?_
    cases m with
    | true => exact Ev.bind (dmethod_f x.f1 (by omega)) (Ev.now _)
    | false => exact Ev.bind (dname_f x.f1 (by omega)) (Ev.now _)
theorem typed_f (l : List En) (hl : Small l) (i : Int) : Ev (fun k => pool_typed.f k l i) (typedS l i) := by
  unfold pool_typed.f typedS
  refine Ev_bindc (kind_f l i 1) ?_
  cases h : kindS l i 1 with
  | none => exact Ev_neg (show ¬ ((16 : Int) = 0) by omega) (Ev.now _)
  | some x =>
    have hs := hl x (kindS_in h).1
    exact Ev_pos rfl (Ev.bind (type_f x.f1 (by omega)) (Ev.now _))
theorem signed_f (l : List En) (hl : Small l) (i : Int) : Ev (fun k => pool_signed.f k l i) (signedS l i) := by
  unfold pool_signed.f signedS
  refine Ev_bindc (kind_f l i 1) ?_
  cases h : kindS l i 1 with
  | none => exact Ev_neg (show ¬ ((16 : Int) = 0) by omega) (Ev.now _)
  | some x =>
    have hs := hl x (kindS_in h).1
    exact Ev_pos rfl (Ev.bind (dsig_f x.f1 (by omega)) (Ev.now _))
def usesS (l : List En) (x : En) : Int :=
  if x.f0 = 1 then (if (x.f1.size : Int) > 255 then 5 else 0) else if x.f0 = 2 then 0 else if x.f0 = 3 then namedS false l x.f3 else if x.f0 = 4 then typedS l x.f3
  else match kindS l x.f3 3 with
    | none => 16
    | some _ => if x.f0 = 6 then (if namedS true l x.f4 = 0 then signedS l x.f5 else namedS true l x.f4) else (if namedS false l x.f4 = 0 then typedS l x.f5 else namedS false l x.f4)
theorem uses_f (l : List En) (hl : Small l) (x : En) : Ev (fun k => pool_uses.f k l x.f0 x.f1 x.f2 x.f3 x.f4 x.f5) (usesS l x) := by
  unfold pool_uses.f usesS
  by_cases h1 : x.f0 = 1
  · rw [if_pos h1]
    refine Ev_pos h1 ?_
    by_cases h : (x.f1.size : Int) > 255
    · refine Ev_pos h ?_; rw [if_pos h]; exact Ev.now _
    · refine Ev_neg h ?_; rw [if_neg h]; exact Ev.now _
  rw [if_neg h1]
  refine Ev_neg h1 ?_
  by_cases h2 : x.f0 = 2
  · rw [if_pos h2]; exact Ev_pos h2 (Ev.now _)
  rw [if_neg h2]
  refine Ev_neg h2 ?_
  by_cases h3 : x.f0 = 3
  · rw [if_pos h3]; exact Ev_pos h3 (named_f false l hl _)
  rw [if_neg h3]
  refine Ev_neg h3 ?_
  by_cases h4 : x.f0 = 4
  · rw [if_pos h4]; exact Ev_pos h4 (typed_f l hl _)
  rw [if_neg h4]
  refine Ev_neg h4 (Ev_bindc (kind_f l x.f3 3) ?_)
  cases h : kindS l x.f3 3 with
  | none => exact Ev_neg (show ¬ ((16 : Int) = 0) by omega) (Ev.now _)
  | some y =>
    refine Ev_pos rfl ?_
    simp only
    by_cases h6 : x.f0 = 6
    · rw [if_pos h6]
      refine Ev_pos h6 (Ev.bind (named_f true l hl _) ?_)
      by_cases he : namedS true l x.f4 = 0
      · rw [if_pos he]; exact Ev_pos he (signed_f l hl _)
      · rw [if_neg he]; exact Ev_neg he (Ev.now _)
    · rw [if_neg h6]
      refine Ev_neg h6 (Ev.bind (named_f false l hl _) ?_)
      by_cases he : namedS false l x.f4 = 0
      · rw [if_pos he]; exact Ev_pos he (typed_f l hl _)
      · rw [if_neg he]; exact Ev_neg he (Ev.now _)
def clean (x : En) : Prop := (x.f0 ≠ 1 → LL x.f1 = []) ∧ (x.f0 ≠ 2 → x.f2 = 0) ∧ (x.f0 = 1 ∨ x.f0 = 2 → x.f3 = 0) ∧ (x.f0 ≠ 5 ∧ x.f0 ≠ 6 → x.f4 = 0 ∧ x.f5 = 0)
instance (x : En) : Decidable (clean x) := by unfold clean; exact inferInstance
def wrongS (l : List En) (x : En) : Int := if x.f0 < 1 ∨ 6 < x.f0 then 3 else if clean x then usesS l x else 1
theorem wrong_f (l : List En) (hl : Small l) (x : En) : Ev (fun k => pool_wrong.f k l x.f0 x.f1 x.f2 x.f3 x.f4 x.f5) (wrongS l x) := by
  have hu : ∀ {f : Nat → Option Int}, (∀ k, f k = (pool_uses.f k l x.f0 x.f1 x.f2 x.f3 x.f4 x.f5).bind fun t => some t) → Ev f (usesS l x) := fun {f} hf => by
    rw [show f = fun k => (pool_uses.f k l x.f0 x.f1 x.f2 x.f3 x.f4 x.f5).bind fun t => some t from funext hf]
    exact Ev.bind (uses_f l hl x) (Ev.now _)
  have go : ∀ (b : Bool), (b = true ↔ ¬ clean x) → 1 ≤ x.f0 → x.f0 ≤ 6 → Ev (fun k => if b = true then (some (1 : Int)) else ((pool_uses.f k l x.f0 x.f1 x.f2 x.f3 x.f4 x.f5).bind fun t => (some t))) (wrongS l x) := fun b hb h0 h1 => by
    unfold wrongS
    rw [if_neg (by omega)]
    by_cases hc : clean x
    · rw [if_pos hc]
      exact Ev_neg (fun h => (hb.1 h) hc) (hu fun _ => rfl)
    · rw [if_neg hc]
      exact Ev_pos (hb.2 hc) (Ev.now _)
  unfold pool_wrong.f
  by_cases h1 : x.f0 = 1
  · refine Ev_pos h1 (go _ ?_ (by omega) (by omega))
    simp [clean, h1]
    omega
  refine Ev_neg h1 ?_
  by_cases h2 : x.f0 = 2
  · refine Ev_pos h2 (go _ ?_ (by omega) (by omega))
    simp [clean, h2, toList_LL]
    constructor <;> intro h <;> grind
  refine Ev_neg h2 ?_
  have j1 : ∀ b : Bool, b = decide (x.f0 = 5 ∨ x.f0 = 6) → x.f0 ≠ 3 → x.f0 ≠ 4 → Ev (fun k => pool_wrong.j1 k l b x.f0 x.f1 x.f2 x.f3 x.f4 x.f5 x.f0 ⟨#[]⟩ 0 0 0 0) (wrongS l x) := fun b hb h3 h4 => by
    refine Ev.step (fun k => by rw [pool_wrong.j1]) ?_
    by_cases h56 : x.f0 = 5 ∨ x.f0 = 6
    · rw [hb, decide_eq_true h56]
      refine Ev_pos rfl (go _ ?_ (by omega) (by omega))
      simp [clean, h1, h2, toList_LL, LL]
      grind
    · rw [hb, decide_eq_false h56]
      refine Ev_neg Bool.false_ne_true ?_
      unfold wrongS
      rw [if_pos (by omega)]
      exact Ev.now _
  have j0 : ∀ b : Bool, b = decide (x.f0 = 3 ∨ x.f0 = 4) → Ev (fun k => pool_wrong.j0 k l x.f0 b x.f0 x.f1 x.f2 x.f3 x.f4 x.f5 x.f0 ⟨#[]⟩ 0 0 0 0) (wrongS l x) := fun b hb => by
    refine Ev.step (fun k => by rw [pool_wrong.j0]) ?_
    by_cases h34 : x.f0 = 3 ∨ x.f0 = 4
    · rw [hb, decide_eq_true h34]
      refine Ev_pos rfl (go _ ?_ (by omega) (by omega))
      simp [clean, h1, h2, toList_LL, LL]
      grind
    · rw [hb, decide_eq_false h34]
      refine Ev_neg Bool.false_ne_true ?_
      by_cases h5 : x.f0 = 5
      · exact Ev_pos h5 (j1 _ (by simp [h5]) (by omega) (by omega))
      · exact Ev_neg h5 (j1 _ (by rw [Bool.eq_iff_iff]; simp [h5]) (by omega) (by omega))
  by_cases h3 : x.f0 = 3
  · exact Ev_pos h3 (j0 _ (by simp [h3]))
  · exact Ev_neg h3 (j0 _ (by rw [Bool.eq_iff_iff]; simp [h3]))
end Go.Proofs.YtldejfkplnejjaaDoor.Pure
namespace Go.Proofs.YtldejfkplnejjaaDoor.Pure
open Go.RowKit Go.Proofs.YtldejfkplnejjaaDoor.P Go.Proofs.YtldejfkplnejjaaDoorW.PrintWords
set_option linter.unusedVariables false
def badE (l : List En) : Int → List En → Int × Int
  | _, [] => (0, 0)
  | i, x :: r => if wrongS l x = 0 then badE l (i + 1) r else (i, wrongS l x)
def pcheckS (l : List En) : Int × Int := if 4096 < l.length then (4096, 4) else badE l 0 l
theorem pcheck_l (l : List En) (hl : Small l) (hn : l.length ≤ 4096) : ∀ (c j : Nat), j + c = l.length → Ev (fun k => pool_Check.l0 k l l (l.length : Int) (j : Int)) (badE l (j : Int) (l.drop j))
  | 0, j, hj => by
    rw [List.drop_of_length_le (by omega)]
    refine Ev.step (fun k => by rw [pool_Check.l0]) ?_
    exact Ev_neg (by omega) (Ev.now _)
  | c + 1, j, hj => by
    obtain ⟨x, hx⟩ := at_of (l := l) (j := j) (by omega)
    rw [drop_at hx, badE]
    have ih := pcheck_l l hl hn c (j + 1) (by omega)
    have hw : wrap64 ((j : Int) + 1) = ((j + 1 : Nat) : Int) := by rw [w64] <;> omega
    refine Ev.step (fun k => by rw [pool_Check.l0, hw, rdE (l := l) (i := (j : Int)) (x := x) (by omega) (by simpa using hx)]) (Ev_pos (by omega) (Ev_pos (by omega) (Ev_pos (by omega) (Ev.bind (wrong_f l hl x) ?_))))
    by_cases h : wrongS l x = 0
    · rw [if_pos h]; exact Ev_pos h ih
    · rw [if_neg h]; exact Ev_neg h (Ev.now _)
theorem pcheck_f (l : List En) (hl : Small l) : Ev (fun k => pool_Check.f k l) (pcheckS l) := by
  unfold pool_Check.f pcheckS
  by_cases h : 4096 < l.length
  · rw [if_pos h]; exact Ev_pos (by omega) (Ev.now _)
  · rw [if_neg h]
    have := pcheck_l l hl (by omega) l.length 0 (Nat.zero_add _)
    rw [List.drop_zero] at this
    exact Ev_neg (by omega) this
def AllR (l : List En) : Prop := ∀ x ∈ l, wrongS l x = 0
theorem badE_0 (l : List En) : ∀ (r : List En) (i : Int), (badE l i r).2 = 0 ↔ ∀ x ∈ r, wrongS l x = 0
  | [], _ => by simp [badE]
  | x :: r, i => by
    rw [badE]
    by_cases h : wrongS l x = 0
    · rw [if_pos h, badE_0 l r]; simp [h]
    · rw [if_neg h]; simp [h]
theorem badE_1 (l : List En) : ∀ (r : List En) (i : Int), (badE l i r).2 = 0 → (badE l i r).1 = 0
  | [], _, _ => rfl
  | x :: r, i, h => by
    rw [badE] at h ⊢
    by_cases hw : wrongS l x = 0
    · rw [if_pos hw] at h ⊢; exact badE_1 l r _ h
    · rw [if_neg hw] at h; exact absurd h hw
theorem pcheck_of {l : List En} (h : AllR l) (hn : l.length ≤ 4096) : pcheckS l = (0, 0) := by
  unfold pcheckS
  rw [if_neg (by omega)]
  have h0 := (badE_0 l l 0).2 h
  exact Prod.ext (badE_1 l l 0 h0) h0
end Go.Proofs.YtldejfkplnejjaaDoor.Pure
namespace Go.Proofs.YtldejfkplnejjaaDoor.Pure
open Go.RowKit Go.Proofs.YtldejfkplnejjaaDoor.P Go.Proofs.YtldejfkplnejjaaDoorW.PrintWords
set_option linter.unusedVariables false
theorem same_l (l : List En) (hn : l.length ≤ 9000000000000) : ∀ (c j : Nat), j + c = l.length → Ev (fun k => keystonelaw3_Same.l0 k l l (j : Int)) true
  | 0, j, hj => by
    refine Ev.step (fun k => by rw [keystonelaw3_Same.l0]) ?_
    exact Ev_neg (by omega) (Ev.now _)
  | c + 1, j, hj => by
    have ih := same_l l hn c (j + 1) (by omega)
    have hw : wrap64 ((j : Int) + 1) = ((j + 1 : Nat) : Int) := by rw [w64] <;> omega
    refine Ev.step (fun k => by rw [keystonelaw3_Same.l0, hw]) (Ev_pos (by omega) (Ev_pos (by omega) (Ev_pos (by omega) (Ev_neg (by simp) ih))))
theorem same_f (l : List En) (hn : l.length ≤ 9000000000000) : Ev (fun k => keystonelaw3_Same.f k l l) true := by
  unfold keystonelaw3_Same.f
  exact Ev_pos rfl (same_l l hn l.length 0 (Nat.zero_add _))
end Go.Proofs.YtldejfkplnejjaaDoor.Pure
namespace Go.Proofs.YtldejfkplnejjaaDoor.Pure
open Go.RowKit Go.Proofs.YtldejfkplnejjaaDoor.P Go.Proofs.YtldejfkplnejjaaDoorW.PrintWords Go.Proofs.YtldejfkplnejjaaDoor.Open
set_option linter.unusedVariables false
theorem textS_size (d : Int) (s : ByteArray) : (textS d s).1.size ≤ 50 := by
  unfold textS
  split
  · rename_i h
    show (BA _).size ≤ 50
    rw [BA_size]
    exact textL_len d s h
  · exact Nat.zero_le _
theorem sigT_size (ps : List Ty) (v : Bool) (d : Int) (m : ByteArray) : (sigT ps v d m).1.size ≤ 2000 := by
  by_cases h16 : 16 < ps.length
  · rw [sigT_16 h16]; exact Nat.zero_le _
  by_cases hp : parE ps = 0
  · have hl := parT_len ps hp
    cases v with
    | true =>
      by_cases h0 : d = 0 ∧ LL m = []
      · rw [sigT_t0 (by omega) hp h0]
        show (BA _).size ≤ 2000
        rw [BA_size, List.length_append, List.length_cons, List.length_cons, List.length_cons, List.length_nil]
        omega
      · rw [sigT_t1 (by omega) hp h0]; exact Nat.zero_le _
    | false =>
      by_cases h0 : chk d m = 0
      · rw [sigT_f0 (by omega) hp h0]
        show (BA _).size ≤ 2000
        have := textL_len d m h0
        rw [BA_size, List.length_append, List.length_cons, List.length_cons]
        omega
      · rw [sigT_f1 (by omega) hp h0]; exact Nat.zero_le _
  · rw [sigT_e (by omega) hp]; exact Nat.zero_le _
def wordOf (x : S57) : CW := ⟨nm x.f2, nm x.f3, mth x.f3, (textS x.f4.f0 x.f4.f1).1, (textS x.f4.f0 x.f4.f1).2, (sigT x.f5.f0 x.f5.f1 x.f5.f2.f0 x.f5.f2.f1).1, (sigT x.f5.f0 x.f5.f1 x.f5.f2.f0 x.f5.f2.f1).2⟩
theorem call_ok (x : S57) (h : ok57 x) : ∃ k, CallOk k x (wordOf x) ∧ CallOkR k x (wordOf x) := by
  obtain ⟨o0, o1, o2, o3, o4, o5⟩ := h
  obtain ⟨_, o4⟩ := o4
  obtain ⟨⟨o5, _, _⟩, _, _, o6⟩ := o5
  have hz : ∀ t ∈ x.f5.f0, t.f1.size ≤ 140737488355328 := fun t ht => Nat.le_trans (o5 t ht).2 (by decide)
  have hm : x.f5.f2.f1.size ≤ 140737488355328 := Nat.le_trans o6 (by decide)
  have ml : 140737488351232 ≤ maxLen := by decide
  obtain ⟨K1, h1⟩ := dname_f x.f2 (by omega)
  obtain ⟨K2, h2⟩ := dname_f x.f3 (by omega)
  obtain ⟨K3, h3⟩ := dmethod_f x.f3 (by omega)
  obtain ⟨K4, h4⟩ := dtext_f x.f4.f0 x.f4.f1 (by omega)
  obtain ⟨K5, h5⟩ := dsigt_f x.f5.f0 x.f5.f1 x.f5.f2.f0 x.f5.f2.f1 hm hz
  obtain ⟨K6, h6⟩ := rname_f x.f2 (by omega)
  obtain ⟨K7, h7⟩ := rname_f x.f3 (by omega)
  obtain ⟨K8, h8⟩ := rmethod_f x.f3 (by omega)
  obtain ⟨K9, h9⟩ := rttext_f x.f4.f0 x.f4.f1 (by omega)
  obtain ⟨K0, h0⟩ := rsigt_f x.f5.f0 x.f5.f1 x.f5.f2.f0 x.f5.f2.f1 hm hz
  have hk : ∃ k, K1 ≤ k ∧ K2 ≤ k ∧ K3 ≤ k ∧ K4 ≤ k ∧ K5 ≤ k ∧ K6 ≤ k ∧ K7 ≤ k ∧ K8 ≤ k ∧ K9 ≤ k ∧ K0 ≤ k := ⟨K1 + K2 + K3 + K4 + K5 + K6 + K7 + K8 + K9 + K0, by omega⟩
  obtain ⟨k, k1, k2, k3, k4, k5, k6, k7, k8, k9, k0⟩ := hk
  refine ⟨k, ⟨o1, by omega, by omega, Nat.le_trans (textS_size _ _) (by decide), Nat.le_trans (sigT_size _ _ _ _) (by decide), h1 k k1, h2 k k2, h3 k k3, h4 k k4, h5 k k5⟩, ⟨h6 k k6, h7 k k7, h8 k k8, h9 k k9, h0 k k0⟩⟩
end Go.Proofs.YtldejfkplnejjaaDoor.Pure
namespace Go.Proofs.YtldejfkplnejjaaDoor.Pure
open Go.RowKit Go.Proofs.YtldejfkplnejjaaDoor.P Go.Proofs.YtldejfkplnejjaaDoorW.PrintWords Go.Proofs.YtldejfkplnejjaaDoor.Open
set_option linter.unusedVariables false
theorem same_e (L : List S50) (hL : L.length ≤ 4096) : ∃ k, keystonelaw3_Same.f k L L = some true := (same_f L (by omega)).rounds
end Go.Proofs.YtldejfkplnejjaaDoor.Pure
namespace Go.Proofs.YtldejfkplnejjaaDoor.Pure
open Go.RowKit Go.Proofs.YtldejfkplnejjaaDoor.P Go.Proofs.YtldejfkplnejjaaDoorW.PrintWords
set_option linter.unusedVariables false
theorem named_0 {m : Bool} {l : List En} {i : Int} (h : namedS m l i = 0) : ∃ y, kindS l i 1 = some y := by
  unfold namedS at h
  cases hk : kindS l i 1 with
  | none => rw [hk] at h; simp at h
  | some y => exact ⟨y, rfl⟩
theorem typed_0 {l : List En} {i : Int} (h : typedS l i = 0) : ∃ y, kindS l i 1 = some y := by
  unfold typedS at h
  cases hk : kindS l i 1 with
  | none => rw [hk] at h; simp at h
  | some y => exact ⟨y, rfl⟩
theorem signed_0 {l : List En} {i : Int} (h : signedS l i = 0) : ∃ y, kindS l i 1 = some y := by
  unfold signedS at h
  cases hk : kindS l i 1 with
  | none => rw [hk] at h; simp at h
  | some y => exact ⟨y, rfl⟩
theorem wrong_uses {l : List En} {x : En} (h : wrongS l x = 0) : usesS l x = 0 := by
  unfold wrongS at h
  split at h
  · simp at h
  · split at h
    · exact h
    · simp at h
theorem use_class {l : List En} {x : En} (h : wrongS l x = 0) (hk : x.f0 = 3) : ∃ y, kindS l x.f3 1 = some y := by
  have hu := wrong_uses h
  unfold usesS at hu
  rw [if_neg (by omega), if_neg (by omega), if_pos hk] at hu
  exact named_0 hu
theorem use_type {l : List En} {x : En} (h : wrongS l x = 0) (hk : x.f0 = 4) : ∃ y, kindS l x.f3 1 = some y := by
  have hu := wrong_uses h
  unfold usesS at hu
  rw [if_neg (by omega), if_neg (by omega), if_neg (by omega), if_pos hk] at hu
  exact typed_0 hu
theorem use_member {l : List En} {x : En} (h : wrongS l x = 0) (hk : x.f0 = 5 ∨ x.f0 = 6) : (∃ c, kindS l x.f3 3 = some c) ∧ (∃ y, kindS l x.f4 1 = some y) ∧ ∃ z, kindS l x.f5 1 = some z := by
  have hu := wrong_uses h
  unfold usesS at hu
  rw [if_neg (by omega), if_neg (by omega), if_neg (by omega), if_neg (by omega)] at hu
  cases hc : kindS l x.f3 3 with
  | none => rw [hc] at hu; simp at hu
  | some c =>
    rw [hc] at hu
    simp only at hu
    refine ⟨⟨c, rfl⟩, ?_⟩
    by_cases h6 : x.f0 = 6
    · rw [if_pos h6] at hu
      by_cases he : namedS true l x.f4 = 0
      · rw [if_pos he] at hu; exact ⟨named_0 he, signed_0 hu⟩
      · rw [if_neg he] at hu; exact absurd hu he
    · rw [if_neg h6] at hu
      by_cases he : namedS false l x.f4 = 0
      · rw [if_pos he] at hu; exact ⟨named_0 he, typed_0 hu⟩
      · rw [if_neg he] at hu; exact absurd hu he
def rightS (l : List En) (i w : Int) : Option En × Int := match kindS l i w with
  | none => (none, 16)
  | some x => if wrongS l x = 0 then (some x, 0) else (none, wrongS l x)
def rightV : Option En × Int → Int × ByteArray × Int × Int × Int × Int × Int
  | (some x, _) => (x.f0, x.f1, x.f2, x.f3, x.f4, x.f5, 0)
  | (none, e) => (0, ⟨#[]⟩, 0, 0, 0, 0, e)
theorem right_f (l : List En) (hl : Small l) (i w : Int) : Ev (fun k => pool_right.f k l i w) (rightV (rightS l i w)) := by
  unfold pool_right.f rightS
  refine Ev_bindc (kind_f l i w) ?_
  cases h : kindS l i w with
  | none => exact Ev_neg (show ¬ ((16 : Int) = 0) by omega) (Ev.now _)
  | some x =>
    refine Ev_pos rfl (Ev.bind (wrong_f l hl x) ?_)
    simp only
    by_cases hw : wrongS l x = 0
    · have e : (if wrongS l x = 0 then (some x, (0 : Int)) else (none, wrongS l x)) = (some x, 0) := if_pos hw
      rw [e]; exact Ev_pos hw (Ev.now _)
    · have e : (if wrongS l x = 0 then (some x, (0 : Int)) else (none, wrongS l x)) = (none, wrongS l x) := if_neg hw
      rw [e]; exact Ev_neg hw (Ev.now _)
theorem right_cases (l : List En) (i w : Int) : (∃ x, rightS l i w = (some x, 0) ∧ kindS l i w = some x ∧ wrongS l x = 0 ∧ x.f0 = w) ∨ ∃ e, e ≠ 0 ∧ rightS l i w = (none, e) := by
  unfold rightS
  cases h : kindS l i w with
  | none => exact .inr ⟨16, by omega, rfl⟩
  | some x =>
    simp only
    by_cases hw : wrongS l x = 0
    · exact .inl ⟨x, by rw [if_pos hw], rfl, hw, (kindS_in h).2.2.2.2⟩
    · exact .inr ⟨_, hw, by rw [if_neg hw]⟩
end Go.Proofs.YtldejfkplnejjaaDoor.Pure
namespace Go.Proofs.YtldejfkplnejjaaDoor.Pure
open Go.RowKit Go.Proofs.YtldejfkplnejjaaDoor.P Go.Proofs.YtldejfkplnejjaaDoorW.PrintWords
set_option linter.unusedVariables false
def txtOf (l : List En) (i : Int) : ByteArray := (rd_T50 l i).f1
abbrev eB : ByteArray := ⟨#[]⟩
def textV (l : List En) (i : Int) : ByteArray × Int := match rightS l i 1 with
  | (some x, _) => (x.f1, 0)
  | (none, e) => (eB, e)
def numberV (l : List En) (i : Int) : Int × Int := match rightS l i 2 with
  | (some x, _) => (x.f2, 0)
  | (none, e) => (0, e)
def classV (l : List En) (i : Int) : ByteArray × Int := match rightS l i 3 with
  | (some x, _) => (txtOf l x.f3, 0)
  | (none, e) => (eB, e)
def ptypeV (l : List En) (i : Int) : Int × ByteArray × Int := match rightS l i 4 with
  | (some x, _) => typeL (LL (txtOf l x.f3))
  | (none, e) => (0, eB, e)
def fieldV (l : List En) (i : Int) : ByteArray × ByteArray × Int × ByteArray × Int := match rightS l i 5 with
  | (some x, _) => if (classV l x.f3).2 = 0 then ((classV l x.f3).1, txtOf l x.f4, typeL (LL (txtOf l x.f5))) else (eB, eB, 0, eB, (classV l x.f3).2)
  | (none, e) => (eB, eB, 0, eB, e)
def methodV (l : List En) (i : Int) : ByteArray × ByteArray × SigV := match rightS l i 6 with
  | (some x, _) => if (classV l x.f3).2 = 0 then ((classV l x.f3).1, txtOf l x.f4, sigS (LL (txtOf l x.f5))) else (eB, eB, [], false, 0, eB, (classV l x.f3).2)
  | (none, e) => (eB, eB, [], false, 0, eB, e)
theorem text_f (l : List En) (hl : Small l) (i : Int) : Ev (fun k => pool_Text.f k l i) (textV l i) := by
  unfold textV
  rcases right_cases l i 1 with ⟨x, hr, hk, hw, h3⟩ | ⟨e, he, hr⟩ <;>
  · refine Ev.bind (right_f l hl i 1) ?_
    rw [hr]
    exact Ev.now _
theorem class_f (l : List En) (hl : Small l) (i : Int) : Ev (fun k => pool_Class.f k l i) (classV l i) := by
  unfold classV
  rcases right_cases l i 3 with ⟨x, hr, hk, hw, h3⟩ | ⟨e, he, hr⟩
  · obtain ⟨y, hy⟩ := use_class hw h3
    have hi := kindS_in hy
    refine Ev.bind (right_f l hl i 3) ?_
    rw [hr]
    exact Ev_pos rfl (Ev_pos hi.2.1 (Ev_pos hi.2.2.1 (Ev.now _)))
  · refine Ev.bind (right_f l hl i 3) ?_
    rw [hr]
    exact Ev_neg he (Ev.now _)
theorem small_txt {l : List En} (hl : Small l) {i : Int} {w : Int} {y : En} (h : kindS l i w = some y) : (txtOf l i).size ≤ 1000000000 := by
  have hi := kindS_in h
  unfold txtOf
  rw [rdE hi.2.1 hi.2.2.2.1]
  exact hl y hi.1
theorem field_f (l : List En) (hl : Small l) (i : Int) : Ev (fun k => pool_Field.f k l i) (fieldV l i) := by
  unfold fieldV
  rcases right_cases l i 5 with ⟨x, hr, hk, hw, h3⟩ | ⟨e, he, hr⟩
  · obtain ⟨_, ⟨y, hy⟩, z, hz⟩ := use_member hw (.inl h3)
    have hi := kindS_in hy
    have hj := kindS_in hz
    have hs := small_txt hl hz
    have hc := class_f l hl x.f3
    refine Ev.bind (right_f l hl i 5) ?_
    rw [hr]
    refine Ev_pos rfl (Ev.bind hc ?_)
    simp only [rightV]
    by_cases h0 : (classV l x.f3).2 = 0
    · rw [if_pos h0]
      exact Ev_pos h0 (Ev_pos hj.2.1 (Ev_pos hj.2.2.1 (Ev.bind (type_f (txtOf l x.f5) (by omega)) (Ev_pos hi.2.1 (Ev_pos hi.2.2.1 (Ev.now _))))))
    · rw [if_neg h0]
      exact Ev_neg h0 (Ev.now _)
  · refine Ev.bind (right_f l hl i 5) ?_
    rw [hr]
    exact Ev_neg he (Ev.now _)
theorem method_f (l : List En) (hl : Small l) (i : Int) : Ev (fun k => pool_Method.f k l i) (methodV l i) := by
  unfold methodV
  rcases right_cases l i 6 with ⟨x, hr, hk, hw, h3⟩ | ⟨e, he, hr⟩
  · obtain ⟨_, ⟨y, hy⟩, z, hz⟩ := use_member hw (.inr h3)
    have hi := kindS_in hy
    have hj := kindS_in hz
    have hs := small_txt hl hz
    have hc := class_f l hl x.f3
    refine Ev.bind (right_f l hl i 6) ?_
    rw [hr]
    refine Ev_pos rfl (Ev.bind hc ?_)
    simp only [rightV]
    by_cases h0 : (classV l x.f3).2 = 0
    · rw [if_pos h0]
      exact Ev_pos h0 (Ev_pos hj.2.1 (Ev_pos hj.2.2.1 (Ev.bind (dsig_f (txtOf l x.f5) (by omega)) (Ev_pos hi.2.1 (Ev_pos hi.2.2.1 (Ev.now _))))))
    · rw [if_neg h0]
      exact Ev_neg h0 (Ev.now _)
  · refine Ev.bind (right_f l hl i 6) ?_
    rw [hr]
    exact Ev_neg he (Ev.now _)
theorem kindS_app {l m : List En} {i w : Int} {y : En} (h : kindS l i w = some y) : kindS (l ++ m) i w = some y := by
  have hi := kindS_in h
  unfold kindS
  rw [if_pos hi.2.1, List.getElem?_append_left (by omega), hi.2.2.2.1]
  simp [hi.2.2.2.2]
theorem named_app {b : Bool} {l : List En} (m : List En) {i : Int} (h : namedS b l i = 0) : namedS b (l ++ m) i = 0 := by
  obtain ⟨y, hy⟩ := named_0 h
  unfold namedS at h ⊢
  rw [hy] at h
  rw [kindS_app hy]
  exact h
theorem typed_app {l : List En} (m : List En) {i : Int} (h : typedS l i = 0) : typedS (l ++ m) i = 0 := by
  obtain ⟨y, hy⟩ := typed_0 h
  unfold typedS at h ⊢
  rw [hy] at h
  rw [kindS_app hy]
  exact h
theorem signed_app {l : List En} (m : List En) {i : Int} (h : signedS l i = 0) : signedS (l ++ m) i = 0 := by
  obtain ⟨y, hy⟩ := signed_0 h
  unfold signedS at h ⊢
  rw [hy] at h
  rw [kindS_app hy]
  exact h
theorem uses_app {l : List En} (m : List En) {x : En} (h : usesS l x = 0) : usesS (l ++ m) x = 0 := by
  unfold usesS at h ⊢
  by_cases h1 : x.f0 = 1
  · rw [if_pos h1] at h ⊢; exact h
  rw [if_neg h1] at h ⊢
  by_cases h2 : x.f0 = 2
  · rw [if_pos h2]
  rw [if_neg h2] at h ⊢
  by_cases h3 : x.f0 = 3
  · rw [if_pos h3] at h ⊢; exact named_app m h
  rw [if_neg h3] at h ⊢
  by_cases h4 : x.f0 = 4
  · rw [if_pos h4] at h ⊢; exact typed_app m h
  rw [if_neg h4] at h ⊢
  cases hc : kindS l x.f3 3 with
  | none => rw [hc] at h; simp at h
  | some c =>
    rw [hc] at h
    rw [kindS_app hc]
    simp only at h ⊢
    by_cases h6 : x.f0 = 6
    · rw [if_pos h6] at h ⊢
      by_cases hn : namedS true l x.f4 = 0
      · rw [if_pos hn] at h
        rw [if_pos (named_app m hn)]
        exact signed_app m h
      · rw [if_neg hn] at h; exact absurd h hn
    · rw [if_neg h6] at h ⊢
      by_cases hn : namedS false l x.f4 = 0
      · rw [if_pos hn] at h
        rw [if_pos (named_app m hn)]
        exact typed_app m h
      · rw [if_neg hn] at h; exact absurd h hn
theorem wrong_app {l : List En} (m : List En) {x : En} (h : wrongS l x = 0) : wrongS (l ++ m) x = 0 := by
  have hu := wrong_uses h
  unfold wrongS at h ⊢
  split at h
  · simp at h
  · rename_i h0
    rw [if_neg h0]
    split at h
    · rename_i hc
      rw [if_pos hc]
      exact uses_app m hu
    · simp at h
end Go.Proofs.YtldejfkplnejjaaDoor.Pure
namespace Go.Proofs.YtldejfkplnejjaaDoor.Pure
open Go.RowKit Go.Proofs.YtldejfkplnejjaaDoor.P Go.Proofs.YtldejfkplnejjaaDoorW.PrintWords Go.Proofs.YtldejfkplnejjaaDoor.Open
set_option linter.unusedVariables false
def At (L : List S50) (i : Int) (x : S50) : Prop := 0 ≤ i ∧ L[i.toNat]? = some x
theorem At_pre {L M : List S50} {i : Int} {x : S50} (h : At L i x) (hp : L <+: M) : At M i x := by
  obtain ⟨r, rfl⟩ := hp
  refine ⟨h.1, ?_⟩
  rw [List.getElem?_append_left (List.getElem?_eq_some_iff.1 h.2).1]
  exact h.2
theorem At_put (x : S50) (L : List S50) : At (putL x L) (putI x L) x := by
  unfold putL putI
  cases h : fstI x L with
  | none => exact ⟨by simp, by simp⟩
  | some i =>
    unfold fstI at h
    obtain ⟨hlt, he, _⟩ := List.findIdx?_eq_some_iff_getElem.1 h
    refine ⟨by simp, ?_⟩
    simp only [Int.toNat_natCast]
    rw [List.getElem?_eq_getElem hlt]
    exact congrArg some (eqE_iff.1 he)
theorem pre_put' (x : S50) (L : List S50) : L <+: putL x L := pre_put (List.prefix_refl L) x
theorem nodup_put {x : S50} {L : List S50} (h : L.Nodup) : (putL x L).Nodup := by
  by_cases hm : x ∈ L
  · rw [putL_in hm]; exact h
  · rw [putL_out hm, List.nodup_append]
    exact ⟨h, by simp, fun a ha b hb => by rw [List.mem_singleton] at hb; subst hb; rintro rfl; exact hm ha⟩
theorem put_again {M : List S50} (hn : M.Nodup) {x : S50} {i : Int} (h : At M i x) : putL x M = M ∧ putI x M = i := by
  obtain ⟨h0, h1⟩ := h
  obtain ⟨hlt, he⟩ := List.getElem?_eq_some_iff.1 h1
  have hf : fstI x M = some i.toNat := fstI_first h1 (fun j y hj hy hyx => by
    subst hyx
    obtain ⟨hl2, he2⟩ := List.getElem?_eq_some_iff.1 hy
    exact List.pairwise_iff_getElem.1 hn j i.toNat hl2 hlt hj (he2.trans he.symm))
  refine ⟨by simp [putL, hf], ?_⟩
  simp only [putI, hf]
  omega
def sClass (M : List S50) (s : ByteArray) (i : Int) : Prop := ∃ a, At M a (eT s) ∧ At M i (eA 3 a)
def sType (M : List S50) (s : ByteArray) (i : Int) : Prop := ∃ a, At M a (eT s) ∧ At M i (eA 4 a)
def sMem (k : Int) (M : List S50) (c n s : ByteArray) (i : Int) : Prop := ∃ a b d, sClass M c a ∧ At M b (eT n) ∧ At M d (eT s) ∧ At M i (eM k a b d)
theorem sClass_pre {L M : List S50} {s : ByteArray} {i : Int} (h : sClass L s i) (hp : L <+: M) : sClass M s i := by
  obtain ⟨a, h1, h2⟩ := h
  exact ⟨a, At_pre h1 hp, At_pre h2 hp⟩
theorem sType_pre {L M : List S50} {s : ByteArray} {i : Int} (h : sType L s i) (hp : L <+: M) : sType M s i := by
  obtain ⟨a, h1, h2⟩ := h
  exact ⟨a, At_pre h1 hp, At_pre h2 hp⟩
theorem sMem_pre {k : Int} {L M : List S50} {c n s : ByteArray} {i : Int} (h : sMem k L c n s i) (hp : L <+: M) : sMem k M c n s i := by
  obtain ⟨a, b, d, h1, h2, h3, h4⟩ := h
  exact ⟨a, b, d, sClass_pre h1 hp, At_pre h2 hp, At_pre h3 hp, At_pre h4 hp⟩
theorem cla_says (s : ByteArray) (L : List S50) : sClass (claL s L) s (claI s L) := ⟨_, At_pre (At_put (eT s) L) (pre_put' _ _), At_put _ _⟩
theorem typ_says (s : ByteArray) (L : List S50) : sType (typL s L) s (typI s L) := ⟨_, At_pre (At_put (eT s) L) (pre_put' _ _), At_put _ _⟩
theorem pre_mem1 (k : Int) (c n s : ByteArray) (L : List S50) : claL c L <+: memL k c n s L := (pre_put' _ _).trans ((pre_put' _ _).trans (pre_put' _ _))
theorem mem_says (k : Int) (c n s : ByteArray) (L : List S50) : sMem k (memL k c n s L) c n s (memI k c n s L) :=
  ⟨_, _, _, sClass_pre (cla_says c L) (pre_mem1 k c n s L), At_pre (At_put (eT n) (claL c L)) ((pre_put' _ _).trans (pre_put' _ _)), At_pre (At_put (eT s) _) (pre_put' _ _), At_put _ _⟩
theorem cla_again {M : List S50} (hn : M.Nodup) {s : ByteArray} {i : Int} (h : sClass M s i) : claL s M = M ∧ claI s M = i := by
  obtain ⟨a, h1, h2⟩ := h
  obtain ⟨e1, e2⟩ := put_again hn h1
  unfold claL claI
  rw [e1, e2]
  exact put_again hn h2
theorem typ_again {M : List S50} (hn : M.Nodup) {s : ByteArray} {i : Int} (h : sType M s i) : typL s M = M ∧ typI s M = i := by
  obtain ⟨a, h1, h2⟩ := h
  obtain ⟨e1, e2⟩ := put_again hn h1
  unfold typL typI
  rw [e1, e2]
  exact put_again hn h2
theorem mem_again {k : Int} {M : List S50} (hn : M.Nodup) {c n s : ByteArray} {i : Int} (h : sMem k M c n s i) : memL k c n s M = M ∧ memI k c n s M = i := by
  obtain ⟨a, b, d, h1, h2, h3, h4⟩ := h
  obtain ⟨e1, e2⟩ := cla_again hn h1
  obtain ⟨e3, e4⟩ := put_again hn h2
  obtain ⟨e5, e6⟩ := put_again hn h3
  unfold memL memI memE
  rw [e1, e2, e3, e4, e5, e6]
  exact put_again hn h4
def Says (x : S57) (v : CW) (M : List S50) (i : Int) : Prop :=
  (x.f0 = 1 ∧ x.f3.size ≤ 255 ∧ At M i (eT x.f3)) ∨ (x.f0 = 2 ∧ At M i (eN x.f1)) ∨ (x.f0 = 3 ∧ v.bc = true ∧ sClass M x.f2 i) ∨ (x.f0 = 4 ∧ v.et = 0 ∧ sType M v.st i) ∨
  (x.f0 = 5 ∧ v.bc = true ∧ v.bs = true ∧ v.et = 0 ∧ sMem 5 M x.f2 x.f3 v.st i) ∨ (x.f0 = 6 ∧ v.bc = true ∧ v.bm = true ∧ v.eg = 0 ∧ v.sg.size ≤ 255 ∧ sMem 6 M x.f2 x.f3 v.sg i)
theorem says_pre {x : S57} {v : CW} {L M : List S50} {i : Int} (h : Says x v L i) (hp : L <+: M) : Says x v M i := by
  rcases h with ⟨h1, h2, h3⟩ | ⟨h1, h2⟩ | ⟨h1, h2, h3⟩ | ⟨h1, h2, h3⟩ | ⟨h1, h2, h3, h4, h5⟩ | ⟨h1, h2, h3, h4, h5, h6⟩
  · exact .inl ⟨h1, h2, At_pre h3 hp⟩
  · exact .inr (.inl ⟨h1, At_pre h2 hp⟩)
  · exact .inr (.inr (.inl ⟨h1, h2, sClass_pre h3 hp⟩))
  · exact .inr (.inr (.inr (.inl ⟨h1, h2, sType_pre h3 hp⟩)))
  · exact .inr (.inr (.inr (.inr (.inl ⟨h1, h2, h3, h4, sMem_pre h5 hp⟩))))
  · exact .inr (.inr (.inr (.inr (.inr ⟨h1, h2, h3, h4, h5, sMem_pre h6 hp⟩))))
theorem kp_room {L0 L1 : List S50} {i : Int} (h : kpE L1 = 0) : kpL L0 L1 = L1 ∧ kpI i L1 = i := by
  unfold kpE at h
  split at h
  · cases h
  · rename_i hr
    exact ⟨if_neg hr, if_neg hr⟩
theorem kp_fits {M : List S50} (hl : M.length ≤ 4096) (i : Int) (L0 : List S50) : kpE M = 0 ∧ kpL L0 M = M ∧ kpI i M = i := by
  have h : ¬ 4096 < M.length := by omega
  exact ⟨if_neg h, if_neg h, if_neg h⟩
theorem call_says (x : S57) (v : CW) (L : List S50) (h : agE x v L = 0) : Says x v (agL x v L) (agI x v L) := by
  unfold agE at h
  unfold agL agI Says
  by_cases h1 : x.f0 = 1
  · simp only [h1, if_true] at h ⊢
    unfold txE at h
    unfold txL txI
    split at h
    · cases h
    · rename_i hs
      obtain ⟨e1, e2⟩ := kp_room (L0 := L) (i := putI (eT x.f3) L) h
      rw [if_neg hs, if_neg hs, e1, e2]
      exact .inl ⟨trivial, by omega, At_put _ _⟩
  simp only [if_neg h1] at h ⊢
  by_cases h2 : x.f0 = 2
  · simp only [h2, if_true] at h ⊢
    obtain ⟨e1, e2⟩ := kp_room (L0 := L) (i := putI (eN x.f1) L) h
    rw [e1, e2]
    exact .inr (.inl ⟨trivial, At_put _ _⟩)
  simp only [if_neg h2] at h ⊢
  by_cases h3 : x.f0 = 3
  · simp only [h3, if_true] at h ⊢
    unfold clE at h
    unfold clL clI
    split at h
    · rename_i hb
      obtain ⟨e1, e2⟩ := kp_room (L0 := L) (i := claI x.f2 L) h
      rw [if_pos hb, if_pos hb, e1, e2]
      exact .inr (.inr (.inl ⟨trivial, hb, cla_says _ _⟩))
    · cases h
  simp only [if_neg h3] at h ⊢
  by_cases h4 : x.f0 = 4
  · simp only [h4, if_true] at h ⊢
    unfold tyE at h
    unfold tyL tyI
    split at h
    · rename_i hb
      obtain ⟨e1, e2⟩ := kp_room (L0 := L) (i := typI v.st L) h
      rw [if_pos hb, if_pos hb, e1, e2]
      exact .inr (.inr (.inr (.inl ⟨trivial, hb, typ_says _ _⟩)))
    · rename_i hb
      exact absurd h hb
  simp only [if_neg h4] at h ⊢
  by_cases h5 : x.f0 = 5
  · simp only [h5, if_true] at h ⊢
    unfold fdE at h
    unfold fdL fdI
    split at h
    · rename_i hb
      split at h
      · rename_i he
        obtain ⟨e1, e2⟩ := kp_room (L0 := L) (i := memI 5 x.f2 x.f3 v.st L) h
        rw [if_pos hb, if_pos hb, if_pos he, if_pos he, e1, e2]
        rw [Bool.and_eq_true] at hb
        exact .inr (.inr (.inr (.inr (.inl ⟨trivial, hb.1, hb.2, he, mem_says _ _ _ _ _⟩))))
      · rename_i he
        exact absurd h he
    · cases h
  simp only [if_neg h5] at h ⊢
  by_cases h6 : x.f0 = 6
  · simp only [h6, if_true] at h ⊢
    unfold mdE at h
    unfold mdL mdI
    split at h
    · rename_i hb
      split at h
      · rename_i he
        split at h
        · cases h
        · rename_i hs
          obtain ⟨e1, e2⟩ := kp_room (L0 := L) (i := memI 6 x.f2 x.f3 v.sg L) h
          rw [if_pos hb, if_pos hb, if_pos he, if_pos he, if_neg hs, if_neg hs, e1, e2]
          rw [Bool.and_eq_true] at hb
          exact .inr (.inr (.inr (.inr (.inr ⟨trivial, hb.1, hb.2, he, by omega, mem_says _ _ _ _ _⟩))))
      · rename_i he
        exact absurd h he
    · cases h
  simp only [if_neg h6] at h
  cases h
theorem says_again {x : S57} {v : CW} {M : List S50} {i : Int} (hn : M.Nodup) (hl : M.length ≤ 4096) (h : Says x v M i) : agE x v M = 0 ∧ agI x v M = i ∧ agL x v M = M := by
  unfold agE agI agL
  rcases h with ⟨h1, h2, h3⟩ | ⟨h1, h3⟩ | ⟨h1, h2, h3⟩ | ⟨h1, h2, h3⟩ | ⟨h1, h2, h4, h5, h3⟩ | ⟨h1, h2, h4, h5, h6, h3⟩
  · obtain ⟨e1, e2⟩ := put_again hn h3
    obtain ⟨r1, r2, r3⟩ := kp_fits hl i M
    have hs : ¬ 255 < x.f3.size := by omega
    simp only [h1, if_true, txE, txI, txL, if_neg hs, e1, e2]
    exact ⟨r1, r3, r2⟩
  · obtain ⟨e1, e2⟩ := put_again hn h3
    obtain ⟨r1, r2, r3⟩ := kp_fits hl i M
    simp only [h1, if_neg (show ¬ (2 : Int) = 1 by omega), if_true, e1, e2]
    exact ⟨r1, r3, r2⟩
  · obtain ⟨e1, e2⟩ := cla_again hn h3
    obtain ⟨r1, r2, r3⟩ := kp_fits hl i M
    simp only [h1, if_neg (show ¬ (3 : Int) = 1 by omega), if_neg (show ¬ (3 : Int) = 2 by omega), if_true, clE, clI, clL, h2, e1, e2]
    exact ⟨r1, r3, r2⟩
  · obtain ⟨e1, e2⟩ := typ_again hn h3
    obtain ⟨r1, r2, r3⟩ := kp_fits hl i M
    simp only [h1, if_neg (show ¬ (4 : Int) = 1 by omega), if_neg (show ¬ (4 : Int) = 2 by omega), if_neg (show ¬ (4 : Int) = 3 by omega), if_true, tyE, tyI, tyL, h2, e1, e2]
    exact ⟨r1, r3, r2⟩
  · obtain ⟨e1, e2⟩ := mem_again hn h3
    obtain ⟨r1, r2, r3⟩ := kp_fits hl i M
    simp only [h1, if_neg (show ¬ (5 : Int) = 1 by omega), if_neg (show ¬ (5 : Int) = 2 by omega), if_neg (show ¬ (5 : Int) = 3 by omega), if_neg (show ¬ (5 : Int) = 4 by omega), if_true, fdE, fdI, fdL, h2, h4, h5, Bool.and_self, e1, e2]
    exact ⟨r1, r3, r2⟩
  · obtain ⟨e1, e2⟩ := mem_again hn h3
    obtain ⟨r1, r2, r3⟩ := kp_fits hl i M
    have hs : ¬ 255 < v.sg.size := by omega
    simp only [h1, if_neg (show ¬ (6 : Int) = 1 by omega), if_neg (show ¬ (6 : Int) = 2 by omega), if_neg (show ¬ (6 : Int) = 3 by omega), if_neg (show ¬ (6 : Int) = 4 by omega), if_neg (show ¬ (6 : Int) = 5 by omega), if_true, mdE, mdI, mdL, h2, h4, h5, Bool.and_self, if_neg hs, e1, e2]
    exact ⟨r1, r3, r2⟩
end Go.Proofs.YtldejfkplnejjaaDoor.Pure
namespace Go.Proofs.YtldejfkplnejjaaDoor.Pure
open Go.RowKit Go.Proofs.YtldejfkplnejjaaDoor.P Go.Proofs.YtldejfkplnejjaaDoorW.PrintWords
set_option linter.unusedVariables false
theorem rsame_l (ps : List Ty) (v : Bool) (d : Int) (m : ByteArray) (hn : ps.length ≤ 9000000000000) : ∀ (c j : Nat), j + c = ps.length → Ev (fun k => keystoneref2_Same.l0 k (j : Int) ps v d m ps v d m) true
  | 0, j, hj => by
    refine Ev.step (fun k => by rw [keystoneref2_Same.l0]) ?_
    exact Ev_neg (by omega) (Ev.now _)
  | c + 1, j, hj => by
    have ih := rsame_l ps v d m hn c (j + 1) (by omega)
    have hw : wrap64 ((j : Int) + 1) = ((j + 1 : Nat) : Int) := by rw [w64] <;> omega
    exact Ev.step (fun k => by rw [keystoneref2_Same.l0, hw]) (Ev_pos (by omega) (Ev_pos (by omega) (Ev_pos (by omega) (Ev_neg (by simp) ih))))
theorem rsame_t (g : List Ty × Bool × Int × ByteArray) (hn : g.1.length ≤ 9000000000000) : Ev (fun k => keystoneref2_Same.f k g.1 g.2.1 g.2.2.1 g.2.2.2 g.1 g.2.1 g.2.2.1 g.2.2.2) true := by
  obtain ⟨ps, v, d, m⟩ := g
  unfold keystoneref2_Same.f
  refine Ev_neg (by simp) (Ev_neg (by simp) ?_)
  refine Ev.step (fun k => by rw [keystoneref2_Same.j0]) ?_
  exact Ev_neg (by simp) (by simpa using rsame_l ps v d m hn ps.length 0 (Nat.zero_add _))
end Go.Proofs.YtldejfkplnejjaaDoor.Pure
namespace Go.Proofs.YtldejfkplnejjaaDoor.Pure
open Go.RowKit Go.Proofs.YtldejfkplnejjaaDoor.P Go.Proofs.YtldejfkplnejjaaDoorW.PrintWords Go.Proofs.YtldejfkplnejjaaDoor.Open
set_option linter.unusedVariables false
theorem bnumber_f (l : List En) (hl : Small l) (i : Int) : Ev (fun k => pool_Number.f k l i) (numberV l i) := by
  unfold numberV
  rcases right_cases l i 2 with ⟨x, hr, hk, hw, h3⟩ | ⟨e, he, hr⟩ <;>
  · refine Ev.bind (right_f l hl i 2) ?_
    rw [hr]
    exact Ev.now _
theorem bptype_f (l : List En) (hl : Small l) (i : Int) : Ev (fun k => pool_Type.f k l i) (ptypeV l i) := by
  unfold ptypeV
  rcases right_cases l i 4 with ⟨x, hr, hk, hw, h3⟩ | ⟨e, he, hr⟩
  · obtain ⟨y, hy⟩ := use_type hw h3
    have hi := kindS_in hy
    have hs := small_txt hl hy
    refine Ev.bind (right_f l hl i 4) ?_
    rw [hr]
    refine Ev_pos rfl (Ev_pos hi.2.1 (Ev_pos hi.2.2.1 ?_))
    exact Ev.bind (type_f (txtOf l x.f3) (by omega)) (Ev.now _)
  · refine Ev.bind (right_f l hl i 4) ?_
    rw [hr]
    exact Ev_neg he (Ev.now _)
theorem kind_at {M : List S50} {i w : Int} {x : S50} (h : At M i x) (hw : x.f0 = w) : kindS M i w = some x := by
  unfold kindS
  rw [if_pos h.1, h.2]
  exact if_pos hw
theorem txt_at {M : List S50} {i : Int} {x : S50} (h : At M i x) : txtOf M i = x.f1 := by
  unfold txtOf
  rw [rdE h.1 h.2]
theorem right_at {M : List S50} (hr : AllR M) {i w : Int} {x : S50} (h : At M i x) (hw : x.f0 = w) : rightS M i w = (some x, 0) := by
  unfold rightS
  rw [kind_at h hw]
  exact if_pos (hr x (List.mem_of_getElem? h.2))
theorem wrong_of {M : List S50} {x : S50} (k : Int) (hk : x.f0 = k) (h1 : 1 ≤ k ∧ k ≤ 6) (hc : clean x) (hu : usesS M x = 0) : wrongS M x = 0 := by
  unfold wrongS
  rw [if_neg (by omega), if_pos hc]
  exact hu
theorem clean_T (s : ByteArray) : clean (eT s) := ⟨fun h => absurd rfl h, fun _ => rfl, fun _ => rfl, fun _ => ⟨rfl, rfl⟩⟩
theorem clean_N (n : Int) : clean (eN n) := ⟨fun _ => rfl, fun h => absurd rfl h, fun _ => rfl, fun _ => ⟨rfl, rfl⟩⟩
theorem clean_A (k a : Int) (h : k = 3 ∨ k = 4) : clean (eA k a) := ⟨fun _ => rfl, fun _ => rfl, fun h2 => absurd h2 (by show ¬ (k = 1 ∨ k = 2); omega), fun _ => ⟨rfl, rfl⟩⟩
theorem clean_M (k a b c : Int) (h : k = 5 ∨ k = 6) : clean (eM k a b c) := ⟨fun _ => rfl, fun _ => rfl, fun h2 => absurd h2 (by show ¬ (k = 1 ∨ k = 2); omega), fun h2 => absurd h2 (by show ¬ (k ≠ 5 ∧ k ≠ 6); omega)⟩
theorem named_at {M : List S50} {a : Int} {s : ByteArray} (h : At M a (eT s)) {m : Bool} (hn : (if m = true then mth s else nm s) = true) : namedS m M a = 0 := by
  unfold namedS
  rw [kind_at (w := 1) h rfl]
  exact if_pos hn
theorem typed_at {M : List S50} {a : Int} {s : ByteArray} (h : At M a (eT s)) (hn : (typeL (LL s)).2.2 = 0) : typedS M a = 0 := by
  unfold typedS
  rw [kind_at (w := 1) h rfl]
  exact hn
theorem signed_at {M : List S50} {a : Int} {s : ByteArray} (h : At M a (eT s)) (hn : (sigS (LL s)).2.2.2.2 = 0) : signedS M a = 0 := by
  unfold signedS
  rw [kind_at (w := 1) h rfl]
  exact hn
theorem wrong_T {M : List S50} {s : ByteArray} (h : s.size ≤ 255) : wrongS M (eT s) = 0 := by
  refine wrong_of 1 rfl (by decide) (clean_T s) ?_
  show (if (s.size : Int) > 255 then (5 : Int) else 0) = 0
  exact if_neg (by omega)
theorem wrong_N (M : List S50) (n : Int) : wrongS M (eN n) = 0 := wrong_of 2 rfl (by decide) (clean_N n) rfl
theorem wrong_C {M : List S50} {a : Int} {s : ByteArray} (h : At M a (eT s)) (hn : nm s = true) : wrongS M (eA 3 a) = 0 := wrong_of 3 rfl (by decide) (clean_A 3 a (.inl rfl)) (named_at (m := false) h hn)
theorem wrong_Y {M : List S50} {a : Int} {s : ByteArray} (h : At M a (eT s)) (hn : (typeL (LL s)).2.2 = 0) : wrongS M (eA 4 a) = 0 := wrong_of 4 rfl (by decide) (clean_A 4 a (.inr rfl)) (typed_at h hn)
theorem wrong_F {M : List S50} {a b d z : Int} {n s : ByteArray} (h1 : At M a (eA 3 z)) (h2 : At M b (eT n)) (h3 : At M d (eT s)) (hn : nm n = true) (hs : (typeL (LL s)).2.2 = 0) : wrongS M (eM 5 a b d) = 0 := by
  refine wrong_of 5 rfl (by decide) (clean_M 5 a b d (.inl rfl)) ?_
  show (match kindS M a 3 with | none => (16 : Int) | some _ => if namedS false M b = 0 then typedS M d else namedS false M b) = 0
  rw [kind_at (w := 3) h1 rfl, named_at (m := false) h2 hn, typed_at h3 hs]
  rfl
theorem wrong_M {M : List S50} {a b d z : Int} {n s : ByteArray} (h1 : At M a (eA 3 z)) (h2 : At M b (eT n)) (h3 : At M d (eT s)) (hn : mth n = true) (hs : (sigS (LL s)).2.2.2.2 = 0) : wrongS M (eM 6 a b d) = 0 := by
  refine wrong_of 6 rfl (by decide) (clean_M 6 a b d (.inr rfl)) ?_
  show (match kindS M a 3 with | none => (16 : Int) | some _ => if namedS true M b = 0 then signedS M d else namedS true M b) = 0
  rw [kind_at (w := 3) h1 rfl, named_at (m := true) h2 hn, signed_at h3 hs]
  rfl
def Good (L : List S50) : Prop := AllR L ∧ L.Nodup ∧ Small L
theorem good_put {L : List S50} {x : S50} (h : Good L) (hx : wrongS (putL x L) x = 0) (hs : x.f1.size ≤ 1000000000) : Good (putL x L) := by
  refine ⟨?_, nodup_put h.2.1, ?_⟩
  · by_cases hm : x ∈ L
    · rw [putL_in hm]; exact h.1
    · rw [putL_out hm] at hx ⊢
      intro y hy
      rcases List.mem_append.1 hy with h1 | h1
      · exact wrong_app [x] (h.1 y h1)
      · rw [List.mem_singleton] at h1; subst h1; exact hx
  · by_cases hm : x ∈ L
    · rw [putL_in hm]; exact h.2.2
    · rw [putL_out hm]
      intro y hy
      rcases List.mem_append.1 hy with h1 | h1
      · exact h.2.2 y h1
      · rw [List.mem_singleton] at h1; subst h1; exact hs
theorem good_T {L : List S50} {s : ByteArray} (h : Good L) (hs : s.size ≤ 255) : Good (putL (eT s) L) := good_put h (wrong_T hs) (by show s.size ≤ _; omega)
theorem good_N {L : List S50} (h : Good L) (n : Int) : Good (putL (eN n) L) := good_put h (wrong_N _ n) (Nat.zero_le _)
theorem nm_255 {s : ByteArray} (h : nm s = true) : s.size ≤ 255 := Nat.le_trans (nm_le h) (by decide)
theorem mth_255 {s : ByteArray} (h : mth s = true) : s.size ≤ 255 := by
  unfold mth at h
  split at h
  · rename_i hi
    unfold isInit at hi
    have e := LL_length s
    rw [← toList_LL, hi] at e
    simp at e
    omega
  · exact nm_255 h
theorem good_C {L : List S50} {s : ByteArray} (h : Good L) (hn : nm s = true) : Good (claL s L) := good_put (good_T h (nm_255 hn)) (wrong_C (At_pre (At_put (eT s) L) (pre_put' _ _)) hn) (Nat.zero_le _)
theorem good_Y {L : List S50} {s : ByteArray} (h : Good L) (hs : s.size ≤ 255) (hn : (typeL (LL s)).2.2 = 0) : Good (typL s L) := good_put (good_T h hs) (wrong_Y (At_pre (At_put (eT s) L) (pre_put' _ _)) hn) (Nat.zero_le _)
theorem good_M {k : Int} {L : List S50} {c n s : ByteArray} (h : Good L) (hc : nm c = true) (hk : (k = 5 ∧ nm n = true ∧ (typeL (LL s)).2.2 = 0) ∨ (k = 6 ∧ mth n = true ∧ (sigS (LL s)).2.2.2.2 = 0)) (hs : s.size ≤ 255) : Good (memL k c n s L) := by
  have hn : n.size ≤ 255 := by rcases hk with ⟨_, h1, _⟩ | ⟨_, h1, _⟩; exact nm_255 h1; exact mth_255 h1
  refine good_put (good_T (good_T (good_C h hc) hn) hs) ?_ (Nat.zero_le _)
  obtain ⟨a, h1, h2⟩ := cla_says c L
  have h2' := At_pre h2 (pre_mem1 k c n s L)
  have h3 := At_pre (At_put (eT n) (claL c L)) ((pre_put' (eT s) _).trans (pre_put' (memE k c n s L) _))
  have h4 := At_pre (At_put (eT s) (putL (eT n) (claL c L))) (pre_put' (memE k c n s L) _)
  rcases hk with ⟨rfl, hk1, hk2⟩ | ⟨rfl, hk1, hk2⟩
  · exact wrong_F h2' h3 h4 hk1 hk2
  · exact wrong_M h2' h3 h4 hk1 hk2
theorem good_kp {L0 L1 : List S50} (h0 : Good L0) (h1 : Good L1) : Good (kpL L0 L1) := by
  unfold kpL
  split
  · exact h0
  · exact h1
theorem textS_ok {d : Int} {s : ByteArray} (h : (textS d s).2 = 0) : typeL (LL (textS d s).1) = (d, s, 0) := by
  by_cases hc : chk d s = 0
  · rw [textS_0 hc]
    show typeL (LL (BA _)) = _
    rw [LL_BA]
    exact type_text d s hc
  · rw [textS_1 hc] at h
    exact absurd h hc
theorem good_agL (x : S57) {L : List S50} (h : Good L) : Good (agL x (wordOf x) L) := by
  unfold agL
  split
  · unfold txL
    split
    · exact h
    · exact good_kp h (good_T h (by omega))
  split
  · exact good_kp h (good_N h _)
  split
  · unfold clL
    split
    · rename_i hb
      exact good_kp h (good_C h hb)
    · exact h
  split
  · unfold tyL
    split
    · rename_i he
      have ht : typeL (LL (wordOf x).st) = _ := textS_ok he
      exact good_kp h (good_Y h (Nat.le_trans (textS_size _ _) (by decide)) (by rw [ht]))
    · exact h
  split
  · unfold fdL
    split
    · rename_i hb
      rw [Bool.and_eq_true] at hb
      split
      · rename_i he
        have ht : typeL (LL (wordOf x).st) = _ := textS_ok he
        exact good_kp h (good_M h hb.1 (.inl ⟨rfl, hb.2, by rw [ht]⟩) (Nat.le_trans (textS_size _ _) (by decide)))
      · exact h
    · exact h
  split
  · unfold mdL
    split
    · rename_i hb
      rw [Bool.and_eq_true] at hb
      split
      · rename_i he
        split
        · exact h
        · rename_i hs
          have ht : sigS (LL (wordOf x).sg) = _ := sig_text _ _ _ _ he
          exact good_kp h (good_M h hb.1 (.inr ⟨rfl, hb.2, by rw [ht]⟩) (by omega))
      · exact h
    · exact h
  · exact h
theorem class_at {M : List S50} (hr : AllR M) {s : ByteArray} {i : Int} (h : sClass M s i) : classV M i = (s, 0) := by
  obtain ⟨a, h1, h2⟩ := h
  unfold classV
  rw [right_at (w := 3) hr h2 rfl]
  show (txtOf M a, (0 : Int)) = _
  rw [txt_at h1]
  rfl
theorem meant_ok {M : List S50} (hr : AllR M) (hs : Small M) (x : S57) (i : Int) (h : Says x (wordOf x) M i) (hp : x.f5.f0.length ≤ 9000000000000) : Ev (fun k => keystonelaw3_meant.f k M i x.f0 x.f1 x.f2 x.f3 x.f4.f0 x.f4.f1 x.f5.f0 x.f5.f1 x.f5.f2.f0 x.f5.f2.f1) true := by
  unfold keystonelaw3_meant.f
  rcases h with ⟨h1, h2, h3⟩ | ⟨h1, h3⟩ | ⟨h1, h2, h3⟩ | ⟨h1, h2, h3⟩ | ⟨h1, h2, h4, h5, h3⟩ | ⟨h1, h2, h4, h5, h6, h3⟩
  · refine Ev_pos h1 (Ev.bind (text_f M hs i) ?_)
    have e : textV M i = (x.f3, 0) := by unfold textV; rw [right_at (w := 1) hr h3 rfl]; rfl
    rw [e]
    exact Ev_pos rfl (Ev_const (by simp))
  · refine Ev_neg (by omega) (Ev_pos h1 (Ev.bind (bnumber_f M hs i) ?_))
    have e : numberV M i = (x.f1, 0) := by unfold numberV; rw [right_at (w := 2) hr h3 rfl]; rfl
    rw [e]
    exact Ev_pos rfl (Ev_const (by simp))
  · refine Ev_neg (by omega) (Ev_neg (by omega) (Ev_pos h1 (Ev.bind (class_f M hs i) ?_)))
    rw [class_at hr h3]
    exact Ev_pos rfl (Ev_const (by simp))
  · refine Ev_neg (by omega) (Ev_neg (by omega) (Ev_neg (by omega) (Ev_pos h1 (Ev.bind (bptype_f M hs i) ?_))))
    obtain ⟨a, ha, hi⟩ := h3
    have e : ptypeV M i = (x.f4.f0, x.f4.f1, 0) := by
      unfold ptypeV
      rw [right_at (w := 4) hr hi rfl]
      show typeL (LL (txtOf M a)) = _
      rw [txt_at ha]
      exact textS_ok h2
    rw [e]
    exact Ev_pos rfl (Ev_const (by simp))
  · refine Ev_neg (by omega) (Ev_neg (by omega) (Ev_neg (by omega) (Ev_neg (by omega) (Ev_pos h1 (Ev.bind (field_f M hs i) ?_)))))
    obtain ⟨a, b, d, hc, hb, hd, hi⟩ := h3
    have e : fieldV M i = (x.f2, x.f3, x.f4.f0, x.f4.f1, 0) := by
      unfold fieldV
      rw [right_at (w := 5) hr hi rfl]
      show (if (classV M a).2 = 0 then ((classV M a).1, txtOf M b, typeL (LL (txtOf M d))) else (eB, eB, 0, eB, (classV M a).2)) = _
      rw [class_at hr hc, if_pos rfl, txt_at hb, txt_at hd]
      have ht : typeL (LL (wordOf x).st) = _ := textS_ok h5
      show (x.f2, x.f3, typeL (LL (wordOf x).st)) = _
      rw [ht]
    rw [e]
    exact Ev_pos rfl (Ev_pos rfl (Ev_pos rfl (Ev_const (by simp))))
  · refine Ev_neg (by omega) (Ev_neg (by omega) (Ev_neg (by omega) (Ev_neg (by omega) (Ev_neg (by omega) (Ev.bind (method_f M hs i) ?_)))))
    obtain ⟨a, b, d, hc, hb, hd, hi⟩ := h3
    have e : methodV M i = (x.f2, x.f3, x.f5.f0, x.f5.f1, x.f5.f2.f0, x.f5.f2.f1, 0) := by
      unfold methodV
      rw [right_at (w := 6) hr hi rfl]
      show (if (classV M a).2 = 0 then ((classV M a).1, txtOf M b, sigS (LL (txtOf M d))) else (eB, eB, [], false, 0, eB, (classV M a).2)) = _
      rw [class_at hr hc, if_pos rfl, txt_at hb, txt_at hd]
      have ht : sigS (LL (wordOf x).sg) = _ := sig_text _ _ _ _ h5
      show (x.f2, x.f3, sigS (LL (wordOf x).sg)) = _
      rw [ht]
    rw [e]
    exact Ev_pos rfl (Ev_pos rfl (Ev_pos rfl (Ev.bind (rsame_t (x.f5.f0, x.f5.f1, x.f5.f2.f0, x.f5.f2.f1) hp) (Ev.now _))))
end Go.Proofs.YtldejfkplnejjaaDoor.Pure
namespace Go.Proofs.YtldejfkplnejjaaDoor.Pure
open Go.RowKit Go.Proofs.YtldejfkplnejjaaDoor.P Go.Proofs.YtldejfkplnejjaaDoorW.PrintWords Go.Proofs.YtldejfkplnejjaaDoor.Open
set_option linter.unusedVariables false
theorem kp_pre {L L1 : List S50} (h : L <+: L1) : L <+: kpL L L1 := by
  unfold kpL
  split
  · exact List.prefix_refl L
  · exact h
theorem pre_cla' (s : ByteArray) (L : List S50) : L <+: claL s L := (pre_put' _ _).trans (pre_put' _ _)
theorem pre_mem' (k : Int) (c n s : ByteArray) (L : List S50) : L <+: memL k c n s L := (pre_cla' c L).trans (pre_mem1 k c n s L)
theorem agL_pre (x : S57) (v : CW) (L : List S50) : L <+: agL x v L := by
  unfold agL
  split
  · unfold txL
    split
    · exact List.prefix_refl L
    · exact kp_pre (pre_put' _ _)
  split
  · exact kp_pre (pre_put' _ _)
  split
  · unfold clL
    split
    · exact kp_pre (pre_cla' _ _)
    · exact List.prefix_refl L
  split
  · unfold tyL
    split
    · exact kp_pre ((pre_put' _ _).trans (pre_put' _ _))
    · exact List.prefix_refl L
  split
  · unfold fdL
    split
    · split
      · exact kp_pre (pre_mem' _ _ _ _ _)
      · exact List.prefix_refl L
    · exact List.prefix_refl L
  split
  · unfold mdL
    split
    · split
      · split
        · exact List.prefix_refl L
        · exact kp_pre (pre_mem' _ _ _ _ _)
      · exact List.prefix_refl L
    · exact List.prefix_refl L
  · exact List.prefix_refl L
theorem fin_pre (wd : S57 → CW) (cs : List S57) (j : Nat) : ∀ d, j + d ≤ cs.length → fin wd cs j <+: fin wd cs (j + d)
  | 0, _ => List.prefix_refl _
  | d + 1, h => (fin_pre wd cs j d (by omega)).trans (by
      have e : fin wd cs (j + (d + 1)) = _ := fin_succ (wd := wd) (cs := cs) (i := j + d) (by omega)
      rw [e]
      exact agL_pre _ _ _)
theorem fin_good (cs : List S57) : ∀ i, i ≤ cs.length → Good (fin wordOf cs i)
  | 0, _ => ⟨fun x hx => by simp [fin] at hx, by simp [fin], fun x hx => by simp [fin] at hx⟩
  | i + 1, h => by rw [fin_succ (by omega)]; exact good_agL _ (fin_good cs i (by omega))
theorem PoolBack (a0 : List S57) (h0 : (∀ x_ ∈ a0, ok57 x_) ∧ a0.length ≤ maxLen ∧ a0.length * 128 ≤ 140737488351232) (B : (sumOf m57 a0 + 1) ≤ 1048576) : keystonelaw3_PoolBack.f a0 = some true := by
  unfold keystonelaw3_PoolBack.f
  refine if_pos ⟨wordOf, fun x hx => ?_, fun m hm => ⟨?_, (fin_good a0 m hm).2.1, fun j hj h => ?_⟩, same_e⟩
  · obtain ⟨k, h, _⟩ := call_ok x (h0.1 x hx)
    exact ⟨k, h⟩
  · obtain ⟨K, hK⟩ := pcheck_f (fin wordOf a0 m) (fin_good a0 m hm).2.2
    rw [pcheck_of (fin_good a0 m hm).1 (fin_len wordOf a0 m hm)] at hK
    exact ⟨K, 0, hK K (Nat.le_refl _)⟩
  · have hc : erJ wordOf a0 j = 0 ∧ (rd_T57 a0 (j : Int)).f5.f0.length ≤ 100 := by
      unfold atJ at h
      by_cases hc : erJ wordOf a0 j = 0 ∧ (rd_T57 a0 (j : Int)).f5.f0.length ≤ 100
      · exact hc
      · rw [if_neg hc] at h
        omega
    have he : atJ wordOf a0 j = agJ wordOf a0 j := by unfold atJ; exact if_pos hc
    have hs := call_says (rd_T57 a0 (j : Int)) (wordOf (rd_T57 a0 (j : Int))) (fin wordOf a0 j) hc.1
    rw [← fin_succ (by omega)] at hs
    obtain ⟨d, rfl⟩ : ∃ d, m = j + 1 + d := ⟨m - (j + 1), by omega⟩
    have hs2 := says_pre hs (fin_pre wordOf a0 (j + 1) d hm)
    have hg := fin_good a0 _ hm
    obtain ⟨a1, a2, a3⟩ := says_again hg.2.1 (fin_len wordOf a0 _ hm) hs2
    refine ⟨a1, ?_, a3, ?_⟩
    · rw [show atJ wordOf a0 j = agI (rd_T57 a0 (j : Int)) (wordOf (rd_T57 a0 (j : Int))) (fin wordOf a0 j) from he]
      exact a2
    · rw [show atJ wordOf a0 j = agI (rd_T57 a0 (j : Int)) (wordOf (rd_T57 a0 (j : Int))) (fin wordOf a0 j) from he]
      exact (meant_ok hg.1 hg.2.2 _ _ hs2 (by omega)).rounds
end Go.Proofs.YtldejfkplnejjaaDoor.Pure
