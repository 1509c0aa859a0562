/- InstrChecks, plainly. -/
import Derived.Test.YtldejfkplnejjaaDoorWMore
import Derived.Test.YtldejfkplnejjaaDoorExtSig
import Derived.Test.YtldejfkplnejjaaDoorKinds
import Derived.Test.YtldejfkplnejjaaDoorP3
import Derived.Test.YtldejfkplnejjaaDoorP4
import Derived.Test.YtldejfkplnejjaaDoorExtUses
import Derived.Test.YtldejfkplnejjaaDoorP5
import Derived.Test.YtldejfkplnejjaaDoorP6
import Derived.Test.YtldejfkplnejjaaDoorP7
import Derived.Test.YtldejfkplnejjaaDoorP10
import Derived.Test.YtldejfkplnejjaaDoorP13
import Derived.Test.YtldejfkplnejjaaDoorP19
import Derived.Laws.BitsLemmas
import Derived.Test.YtldejfkplnejjaaDoorP14
import Derived.Test.YtldejfkplnejjaaDoorP15
import Derived.Test.YtldejfkplnejjaaDoorP22
import Derived.Test.YtldejfkplnejjaaDoorP23
import Derived.Test.YtldejfkplnejjaaDoorP24
import Derived.Test.YtldejfkplnejjaaDoorP25
namespace Go.Proofs.YtldejfkplnejjaaDoor.Pure
open Go.RowKit Go.Proofs.YtldejfkplnejjaaDoorW.PrintWords
theorem w64 {n : Int} (h0 : -9223372036854775808 ≤ n) (h1 : n ≤ 9223372036854775807) : wrap64 n = n := by unfold wrap64; omega
theorem Ev_at {α : Type} {g : Nat → Option α} {r : α} (K : Nat) (h : ∀ m, g (m + K) = some r) : Ev g r :=
  ⟨K, fun k hk => by obtain ⟨m, rfl⟩ : ∃ m, k = m + K := ⟨k - K, by omega⟩; exact h m⟩
theorem Ev_const {α : Type} {o : Option α} {r : α} (h : o = some r) : Ev (fun _ => o) r := ⟨0, fun _ _ => h⟩
theorem Ev_pos {α : Type} {c : Prop} [Decidable c] {f g : Nat → Option α} {r : α} (hc : c) (h : Ev f r) : Ev (fun k => if c then f k else g k) r := by
  simpa only [if_pos hc] using h
theorem Ev_neg {α : Type} {c : Prop} [Decidable c] {f g : Nat → Option α} {r : α} (hc : ¬ c) (h : Ev g r) : Ev (fun k => if c then f k else g k) r := by
  simpa only [if_neg hc] using h
theorem Ev_ite {α : Type} {c : Prop} [Decidable c] {f g : Nat → Option α} {r : α} (h : c → Ev f r) (h' : ¬ c → Ev g r) : Ev (fun k => if c then f k else g k) r := by
  by_cases hc : c
  · exact Ev_pos hc (h hc)
  · exact Ev_neg hc (h' hc)
theorem Ev_some {α β : Type} {x : α} {f : Nat → α → Option β} {r : β} (h : Ev (fun n => f n x) r) : Ev (fun n => (some x).bind (f n)) r := h
theorem Ev_bindc {α β : Type} {o : Option α} {x : α} {f : Nat → α → Option β} {r : β} (ho : o = some x) (h : Ev (fun n => f n x) r) : Ev (fun n => o.bind (f n)) r := by
  subst ho; exact h
theorem getD_at {α : Type} {l : List α} {d : α} {i : Int} {x : α} {j : Nat} (hi : i = j) (h : l[j]? = some x) : l.getD i.toNat d = x := by
  subst hi
  simp [List.getD, h]
theorem at_of {α : Type} {l : List α} {j : Nat} (h : j < l.length) : ∃ x, l[j]? = some x := ⟨l[j], List.getElem?_eq_getElem h⟩
theorem drop_at {α : Type} {l : List α} {j : Nat} {x : α} (h : l[j]? = some x) : l.drop j = x :: l.drop (j + 1) := by
  obtain ⟨hj, rfl⟩ := List.getElem?_eq_some_iff.1 h
  exact List.drop_eq_getElem_cons hj
end Go.Proofs.YtldejfkplnejjaaDoor.Pure
namespace Go.Proofs.YtldejfkplnejjaaDoor.Pure
open Go.RowKit Go.Proofs.YtldejfkplnejjaaDoor.P Go.Proofs.YtldejfkplnejjaaDoorW.PrintWords
set_option linter.unusedVariables false
def LL (s : ByteArray) : List UInt8 := s.data.toList
theorem LL_length (s : ByteArray) : (LL s).length = s.size := by simp [LL]
theorem LL_inj {a b : ByteArray} (h : LL a = LL b) : a = b := by
  cases a; cases b; simpa [LL] using h
theorem toList_LL (s : ByteArray) : s.toList = LL s := ByteArray.toList_eq s
theorem bt_of {s : ByteArray} {j : Nat} {c : UInt8} (h : (LL s)[j]? = some c) : bt s (j : Int) = (c.toNat : Int) := by
  obtain ⟨hj, rfl⟩ := List.getElem?_eq_some_iff.1 h
  rw [LL_length] at hj
  unfold bt
  rw [dif_pos (by simpa using hj)]
  rfl
theorem LL_extract (s : ByteArray) (i j : Nat) : LL (s.extract i j) = ((LL s).take j).drop i := by
  simp [LL, ByteArray.data_extract, Array.toList_extract, List.drop_take]
def letterS (c : Int) (first : Bool) : Bool := decide ((97 ≤ c ∧ c ≤ 122) ∨ (65 ≤ c ∧ c ≤ 90) ∨ c = 95) || (!first && decide (48 ≤ c ∧ c ≤ 57))
theorem letterS_t {c : Int} {f : Bool} (h : (97 ≤ c ∧ c ≤ 122) ∨ (65 ≤ c ∧ c ≤ 90) ∨ c = 95) : letterS c f = true := by unfold letterS; rw [decide_eq_true h]; rfl
theorem letterS_n {c : Int} {f : Bool} (h : ¬ ((97 ≤ c ∧ c ≤ 122) ∨ (65 ≤ c ∧ c ≤ 90) ∨ c = 95)) (h' : f = true ∨ ¬ (48 ≤ c ∧ c ≤ 57)) : letterS c f = false := by
  unfold letterS
  rw [decide_eq_false h]
  rcases h' with rfl | h'
  · rfl
  · rw [decide_eq_false h']; simp
theorem letter_f (c : Int) (b : Bool) : desc_letter.f c b = some (letterS c b) := by
  by_cases h : (97 ≤ c ∧ c ≤ 122) ∨ (65 ≤ c ∧ c ≤ 90) ∨ c = 95
  · rw [letterS_t h]
    unfold desc_letter.f
    repeat' split
    all_goals first | rfl | (exfalso; omega)
  · cases b with
    | true =>
      rw [letterS_n h (.inl rfl)]
      unfold desc_letter.f
      repeat' split
      all_goals first | rfl | (exfalso; omega) | (exfalso; simp_all; done)
    | false =>
      have e : letterS c false = decide (48 ≤ c ∧ c ≤ 57) := by unfold letterS; rw [decide_eq_false h]; simp
      rw [e]
      unfold desc_letter.f
      repeat' split
      all_goals first | (exfalso; omega) | (exfalso; simp_all; done) | (congr 1; simp; omega)
def allL : Bool → List UInt8 → Bool
  | _, [] => true
  | f, c :: l => letterS (c.toNat : Int) f && allL false l
def nmL (l : List UInt8) : Bool := allL true l && (decide (l ≠ []) && decide (l.length ≤ 32))
def nm (s : ByteArray) : Bool := nmL (LL s)
theorem dname_l (s : ByteArray) (hs : s.size ≤ 140737488355328) : ∀ (d j : Nat), j + d = s.size →
    Ev (fun k => desc_Name.l0 k s (s.size : Int) (j : Int)) (allL (decide (j = 0)) ((LL s).drop j) && (decide (LL s ≠ []) && decide ((LL s).length ≤ 32)))
  | 0, j, hj => by
    refine Ev.step (fun k => by rw [desc_Name.l0]) (Ev_neg (by omega) ?_)
    rw [List.drop_of_length_le (by rw [LL_length]; omega), toList_LL, LL_length]
    refine Ev_ite (fun h => Ev_const ?_) (fun h => Ev_const ?_)
    · rw [h]; rfl
    · simp [allL, h]; omega
  | d + 1, j, hj => by
    obtain ⟨c, hc⟩ := at_of (l := LL s) (j := j) (by rw [LL_length]; omega)
    rw [drop_at hc]
    refine Ev.step (fun k => by rw [desc_Name.l0]) (Ev_pos (by omega) (Ev_pos (by omega) (Ev_pos (by omega) (Ev_bindc (letter_f _ _) ?_))))
    rw [bt_of hc, show ((j : Int) == 0) = decide (j = 0) by by_cases h : j = 0 <;> simp [h]]
    rw [allL]
    by_cases hl : letterS (c.toNat : Int) (decide (j = 0)) = true
    · rw [hl, Bool.true_and]
      refine Ev_pos rfl ?_
      rw [show wrap64 ((j : Int) + 1) = ((j + 1 : Nat) : Int) by rw [w64] <;> omega]
      have ih := dname_l s hs d (j + 1) (by omega)
      rwa [show decide (j + 1 = 0) = false by simp] at ih
    · rw [Bool.not_eq_true] at hl
      rw [hl]
      exact Ev_neg Bool.false_ne_true (Ev.now _)
theorem dname_f (s : ByteArray) (hs : s.size ≤ 140737488355328) : Ev (fun k => desc_Name.f k s) (nm s) := by
  have h := dname_l s hs s.size 0 (Nat.zero_add _)
  rwa [show decide (0 = 0) = true from rfl, List.drop_zero] at h
def isInit (s : ByteArray) : Prop := s.toList = ([60, 105, 110, 105, 116, 62] : List UInt8)
instance (s : ByteArray) : Decidable (isInit s) := by unfold isInit; infer_instance
def mth (s : ByteArray) : Bool := if isInit s then true else nm s
def BA (l : List UInt8) : ByteArray := ⟨l.toArray⟩
theorem LL_BA (l : List UInt8) : LL (BA l) = l := by simp [LL, BA]
theorem BA_eq {s : ByteArray} {l : List UInt8} (h : LL s = l) : s = BA l := LL_inj (h.trans (LL_BA l).symm)
theorem BA_size (l : List UInt8) : (BA l).size = l.length := by rw [← LL_length, LL_BA]
theorem extract_BA (s : ByteArray) (j : Nat) : s.extract j s.size = BA ((LL s).drop j) := BA_eq (by rw [LL_extract, List.take_of_length_le (by rw [LL_length]; exact Nat.le_refl _)])
def brk (l : List UInt8) : Nat := (l.takeWhile (· == 91)).length
def semi (l : List UInt8) : Nat := (l.takeWhile (· != 59)).length
theorem brk_drop : ∀ l : List UInt8, l.dropWhile (· == 91) = l.drop (brk l)
  | [] => rfl
  | a :: l => by
    unfold brk
    by_cases h : (a == 91) = true
    · rw [List.dropWhile_cons_of_pos (p := (· == (91 : UInt8))) h, List.takeWhile_cons_of_pos (p := (· == (91 : UInt8))) h, List.length_cons, List.drop_succ_cons]; exact brk_drop l
    · rw [List.dropWhile_cons_of_neg (p := (· == (91 : UInt8))) h, List.takeWhile_cons_of_neg (p := (· == (91 : UInt8))) h]; rfl
theorem brk_le (l : List UInt8) : brk l ≤ l.length := (List.takeWhile_sublist _).length_le
def firstL (l : List UInt8) : Option (Nat × List UInt8 × List UInt8) :=
  if 8 < brk l then none else match l.drop (brk l) with
    | [] => none
    | c :: t => if c = 73 then some (brk l, [], t) else if c = 76 then (if semi t < t.length ∧ nmL (t.take (semi t)) = true then some (brk l, t.take (semi t), t.drop (semi t + 1)) else none) else none
def firstS : Option (Nat × List UInt8 × List UInt8) → Int × ByteArray × ByteArray × Bool
  | none => (0, ⟨#[]⟩, ⟨#[]⟩, false)
  | some (n, m, r) => ((n : Int), BA m, BA r, true)
theorem hasPrefix_f (s : ByteArray) (c : UInt8) : strings_HasPrefix.f s ⟨#[c]⟩ = some (decide ((LL s).head? = some c)) := by
  unfold strings_HasPrefix.f stringslite_HasPrefix.f
  have h1 : ((⟨#[c]⟩ : ByteArray).size : Int) = 1 := rfl
  rw [h1]
  cases hl : LL s with
  | nil =>
    have : s.size = 0 := by rw [← LL_length, hl]; rfl
    rw [if_neg (by omega)]; simp
  | cons a l =>
    have : s.size = l.length + 1 := by rw [← LL_length, hl]; rfl
    rw [if_pos (by omega), if_pos (by omega), if_pos (by omega)]
    simp only [Option.bind_some, toList_LL, LL_extract, hl]
    show some (_ == [c]) = _
    simp
    by_cases h : a = c <;> simp [h]
theorem indexByte_semi : ∀ l : List UInt8, Lib.indexByte l 59 = if semi l < l.length then (semi l : Int) else -1
  | [] => rfl
  | a :: l => by
    have ih := indexByte_semi l
    unfold Lib.indexByte semi
    by_cases h : a = 59
    · subst h; simp
    · have h' : (a != 59) = true := by simpa using h
      have h'' : (a == 59) = false := by simpa using h
      have e : (List.takeWhile (· != (59 : UInt8)) (a :: l)).length = semi l + 1 := by rw [List.takeWhile_cons_of_pos (p := (· != (59 : UInt8))) h']; rfl
      rw [h'', if_neg Bool.false_ne_true, e, List.length_cons]
      by_cases hs : semi l < l.length
      · rw [if_pos hs] at ih
        rw [ih, if_pos (show semi l + 1 < l.length + 1 by omega), if_neg (by simp)]; rfl
      · rw [if_neg hs] at ih
        rw [ih, if_neg (show ¬ semi l + 1 < l.length + 1 by omega)]; rfl
theorem cut_f (s : ByteArray) (hs : s.size ≤ 140737488355328) : strings_Cut.f s ⟨#[59]⟩ = some (if semi (LL s) < (LL s).length then (BA ((LL s).take (semi (LL s))), BA ((LL s).drop (semi (LL s) + 1)), true) else (s, ⟨#[]⟩, false)) := by
  unfold strings_Cut.f stringslite_Cut.f stringslite_Index.f
  rw [if_pos rfl, show s.data.toList = LL s from rfl, indexByte_semi]
  have h1 : ((⟨#[59]⟩ : ByteArray).size : Int) = 1 := rfl
  by_cases h : semi (LL s) < (LL s).length
  · rw [if_pos h, if_pos h]
    have hl := LL_length s
    simp only [Option.bind_some, h1]
    rw [w64 (by omega) (by omega), if_pos (by omega), if_pos (by omega), if_pos (by omega), if_pos (by omega), if_pos (by omega)]
    simp only [Option.bind_some]
    rw [show ((semi (LL s) : Int) + 1).toNat = semi (LL s) + 1 by omega, extract_BA, Int.toNat_natCast]
    congr 2
    exact BA_eq (by rw [LL_extract]; simp)
  · rw [if_neg h, if_neg h]; rfl
theorem first_f (s : ByteArray) (hs : s.size ≤ 140737488355328) : Ev (fun k => desc_first.f k s) (firstS (firstL (LL s))) := by
  unfold desc_first.f firstL
  have hl := LL_length s
  have hb := brk_le (LL s)
  refine Ev_bindc (x := BA ((LL s).drop (brk (LL s)))) (by unfold strings_TrimLeft.f; rw [if_pos rfl]; show some (BA (Lib.trimLeftB (LL s) 91)) = _; unfold Lib.trimLeftB; rw [brk_drop]) ?_
  simp only [BA_size, List.length_drop]
  have hn : wrap64 ((s.size : Int) - (((LL s).length - brk (LL s) : Nat) : Int)) = (brk (LL s) : Int) := by rw [w64] <;> omega
  rw [hn]
  by_cases h8 : 8 < brk (LL s)
  · rw [if_pos h8]; exact Ev_pos (by omega) (Ev.now _)
  rw [if_neg h8]
  refine Ev_neg (by omega) (Ev_pos (by omega) (Ev_pos (by omega) ?_))
  rw [Int.toNat_natCast, extract_BA]
  refine Ev_bindc (hasPrefix_f _ 73) ?_
  rw [LL_BA]
  have hsz : (BA ((LL s).drop (brk (LL s)))).size ≤ 140737488355328 := by rw [BA_size, List.length_drop]; omega
  generalize (LL s).drop (brk (LL s)) = u at hsz
  match u, hsz with
  | [], hsz =>
    refine Ev_neg (by simp) (Ev_bindc (cut_f _ hsz) ?_)
    rw [LL_BA]
    exact Ev_neg (by simp) (Ev.now _)
  | c :: t, hsz =>
    by_cases h1 : c = 73
    · subst h1
      refine Ev_pos (by simp) (Ev_pos (by rw [BA_size]; simp; omega) ?_)
      rw [extract_BA, LL_BA]
      exact Ev.now _
    have h1' : ¬ (decide ((c :: t).head? = some 73) = true) := by simpa using h1
    refine Ev_neg h1' (Ev_bindc (cut_f _ hsz) ?_)
    rw [LL_BA]
    simp only
    rw [if_neg h1]
    by_cases h2 : c = 76
    · subst h2
      rw [if_pos rfl]
      have e : semi (76 :: t) = semi t + 1 := by unfold semi; rw [List.takeWhile_cons_of_pos (by decide)]; rfl
      simp only [e, List.length_cons]
      by_cases h3 : semi t < t.length
      · rw [if_pos (show semi t + 1 < t.length + 1 by omega)]
        refine Ev_pos rfl (Ev_bindc (hasPrefix_f _ 76) (Ev_pos ?_ (Ev_pos ?_ ?_)))
        · rw [LL_BA]; simp
        · rw [BA_size]; simp; omega
        · simp only [extract_BA, LL_BA]
          rw [show ((76 :: t).take (semi t + 1)).drop 1 = t.take (semi t) by simp]
          refine Ev.bind (dname_f _ (by rw [BA_size]; simp only [BA_size, List.length_cons, List.length_take] at hsz ⊢; omega)) ?_
          have hnm : nm (BA (t.take (semi t))) = nmL (t.take (semi t)) := by unfold nm; rw [LL_BA]
          rw [hnm]
          by_cases h4 : nmL (t.take (semi t)) = true
          · refine Ev_pos h4 ?_
            rw [if_pos ⟨h3, h4⟩]
            exact Ev_const (by simp [firstS])
          · refine Ev_neg h4 ?_
            rw [if_neg (fun h => h4 h.2)]
            exact Ev.now _
      · rw [if_neg (show ¬ semi t + 1 < t.length + 1 by omega), if_neg (fun h => h3 h.1)]
        exact Ev_neg Bool.false_ne_true (Ev.now _)
    · rw [if_neg h2]
      refine Ev_ite (fun h5 => ?_) (fun _ => Ev.now _)
      by_cases h3 : semi (c :: t) < (c :: t).length
      · rw [if_pos h3]
        refine Ev_bindc (hasPrefix_f _ 76) (Ev_neg ?_ (Ev.now _))
        rw [LL_BA]
        cases hsm : semi (c :: t) with
        | zero => simp
        | succ n => simp [h2]
      · rw [if_neg h3] at h5
        exact absurd h5 Bool.false_ne_true
def typeL (l : List UInt8) : Int × ByteArray × Int := match firstL l with
  | some (n, m, []) => ((n : Int), BA m, 0)
  | _ => (0, ⟨#[]⟩, 15)
theorem type_f (s : ByteArray) (hs : s.size ≤ 140737488355328) : Ev (fun k => desc_Type.f k s) (typeL (LL s)) := by
  unfold desc_Type.f typeL
  refine Ev.bind (first_f s hs) ?_
  cases h : firstL (LL s) with
  | none => exact Ev_neg Bool.false_ne_true (Ev.now _)
  | some r =>
    obtain ⟨n, m, r⟩ := r
    refine Ev_pos rfl ?_
    cases r with
    | nil => exact Ev_pos (show (BA []).toList = [] by rw [toList_LL, LL_BA]) (Ev.now _)
    | cons a r => exact Ev_neg (show ¬ (BA (a :: r)).toList = [] by rw [toList_LL, LL_BA]; simp) (Ev.now _)
theorem first_len {l : List UInt8} {n : Nat} {m r : List UInt8} (h : firstL l = some (n, m, r)) : r.length < l.length ∧ n ≤ 8 ∧ m.length ≤ 32 := by
  unfold firstL at h
  split at h
  · cases h
  · rename_i h8
    split at h
    · cases h
    · rename_i c t hd
      have hlen : t.length + 1 = l.length - brk l := by rw [← List.length_drop, hd]; rfl
      split at h
      · simp only [Option.some.injEq, Prod.mk.injEq] at h
        obtain ⟨rfl, rfl, rfl⟩ := h
        exact ⟨by omega, by omega, by simp⟩
      · split at h
        · split at h
          · rename_i hh
            simp only [Option.some.injEq, Prod.mk.injEq] at h
            obtain ⟨rfl, rfl, rfl⟩ := h
            have := hh.2
            unfold nmL at this
            simp only [Bool.and_eq_true, decide_eq_true_eq] at this
            exact ⟨by rw [List.length_drop]; omega, by omega, this.2.2⟩
          · cases h
        · cases h
abbrev Ty := S34
abbrev SigV := List Ty × Bool × Int × ByteArray × Int
def sigE (acc : List Ty) (r : List UInt8) : SigV :=
  if r = [86] then (if 16 < acc.length then ([], false, 0, ⟨#[]⟩, 4) else (acc, true, 0, ⟨#[]⟩, 0))
  else match firstL r with
    | some (n, m, []) => if 16 < acc.length then ([], false, 0, ⟨#[]⟩, 4) else (acc, false, (n : Int), BA m, 0)
    | _ => ([], false, 0, ⟨#[]⟩, 15)
def sigP : Nat → List Ty → List UInt8 → SigV
  | _, _, [] => ([], false, 0, ⟨#[]⟩, 15)
  | 0, _, _ :: _ => ([], false, 0, ⟨#[]⟩, 15)
  | f + 1, acc, c :: t => if c = 41 then sigE acc t else match firstL (c :: t) with
    | none => ([], false, 0, ⟨#[]⟩, 15)
    | some (n, m, r) => sigP f (acc ++ [⟨(n : Int), BA m⟩]) r
def sigS : List UInt8 → SigV
  | 40 :: t => sigP t.length [] t
  | _ => ([], false, 0, ⟨#[]⟩, 15)
theorem dsig_l : ∀ (f : Nat) (acc : List Ty) (s : ByteArray), s.size ≤ f → s.size ≤ 1000000000000 → acc.length + s.size ≤ 1000000000000 → Ev (fun k => desc_Sig.l0 k s acc false 0 ⟨#[]⟩) (sigP f acc (LL s))
  | f, acc, s, hf, hs, ha => by
    have hl := LL_length s
    refine Ev.step (fun k => by rw [desc_Sig.l0]) (Ev_bindc (hasPrefix_f s 41) ?_)
    match hu : LL s, f with
    | [], f =>
      refine Ev_neg (by simp) (Ev.bind (first_f s (by omega)) ?_)
      rw [hu]
      refine Ev_neg Bool.false_ne_true ?_
      cases f <;> exact Ev.now _
    | c :: t, 0 => rw [hu] at hl; simp at hl; omega
    | c :: t, f + 1 =>
      rw [hu] at hl
      simp only [List.length_cons] at hl
      by_cases hc : c = 41
      · subst hc
        refine Ev_pos (by simp) ?_
        have hx : s.extract 1 s.size = BA t := by rw [extract_BA, hu]; rfl
        show Ev _ (sigE acc t)
        unfold sigE
        by_cases hv : t = [86]
        · rw [if_pos hv]
          refine Ev_pos (by rw [toList_LL, hu, hv]) ?_
          by_cases h16 : 16 < acc.length
          · exact Ev_pos (by omega) (by rw [if_pos h16]; exact Ev.now _)
          · exact Ev_neg (by omega) (by rw [if_neg h16]; exact Ev.now _)
        · rw [if_neg hv]
          refine Ev_neg (by rw [toList_LL, hu]; simpa using hv) (Ev_pos (by omega) ?_)
          rw [hx]
          refine Ev.bind (first_f _ (by rw [BA_size]; omega)) ?_
          rw [LL_BA]
          have bad : ∀ (x : Int) (y : ByteArray), Ev (fun k => desc_Sig.j1 k true acc false x y) (([], false, 0, ⟨#[]⟩, 15) : SigV) := fun x y => by
            refine Ev.step (fun k => by rw [desc_Sig.j1]) ?_
            exact Ev_pos rfl (Ev.now _)
          cases hfl : firstL t with
          | none => exact Ev_neg Bool.false_ne_true (bad _ _)
          | some q =>
            obtain ⟨n, m, r⟩ := q
            refine Ev_pos rfl ?_
            cases r with
            | nil =>
              have e : ((BA []).toList != ([] : List UInt8)) = false := by rw [toList_LL, LL_BA]; rfl
              show Ev (fun k => desc_Sig.j1 k ((BA []).toList != ([] : List UInt8)) acc false (n : Int) (BA m)) _
              rw [e]
              refine Ev.step (fun k => by rw [desc_Sig.j1]) (Ev_neg Bool.false_ne_true ?_)
              by_cases h16 : 16 < acc.length
              · exact Ev_pos (by omega) (by simp only; rw [if_pos h16]; exact Ev.now _)
              · exact Ev_neg (by omega) (by simp only; rw [if_neg h16]; exact Ev.now _)
            | cons x r =>
              have e : ((BA (x :: r)).toList != ([] : List UInt8)) = true := by rw [toList_LL, LL_BA]; rfl
              show Ev (fun k => desc_Sig.j1 k ((BA (x :: r)).toList != ([] : List UInt8)) acc false (n : Int) (BA m)) _
              rw [e]
              exact bad _ _
      · refine Ev_neg (by simpa using hc) (Ev.bind (first_f s (by omega)) ?_)
        rw [hu]
        simp only [sigP]
        rw [if_neg hc]
        cases hfl : firstL (c :: t) with
        | none => exact Ev_neg Bool.false_ne_true (Ev.now _)
        | some q =>
          obtain ⟨n, m, r⟩ := q
          obtain ⟨h1, h2, h3⟩ := first_len hfl
          simp only [List.length_cons] at h1
          refine Ev_pos rfl (Ev_pos (by omega) ?_)
          have ih := dsig_l f (acc ++ [⟨(n : Int), BA m⟩]) (BA r) (by rw [BA_size]; omega) (by rw [BA_size]; omega) (by rw [BA_size]; simp; omega)
          rw [LL_BA] at ih
          exact ih
theorem dsig_f (s : ByteArray) (hs : s.size ≤ 1000000000000) : Ev (fun k => desc_Sig.f k s) (sigS (LL s)) := by
  unfold desc_Sig.f
  have hl := LL_length s
  refine Ev_bindc (hasPrefix_f s 40) ?_
  cases hu : LL s with
  | nil => exact Ev_neg (by simp) (Ev.now _)
  | cons c t =>
    rw [hu] at hl
    simp only [List.length_cons] at hl
    by_cases hc : c = 40
    · subst hc
      refine Ev_pos (by simp) (Ev_pos (by omega) ?_)
      have hx : s.extract 1 s.size = BA t := by rw [extract_BA, hu]; rfl
      rw [hx]
      have := dsig_l t.length [] (BA t) (by rw [BA_size]; exact Nat.le_refl _) (by rw [BA_size]; omega) (by rw [BA_size]; simp; omega)
      rw [LL_BA] at this
      exact this
    · refine Ev_neg (by simpa using hc) ?_
      have e : sigS (c :: t) = ([], false, 0, ⟨#[]⟩, 15) := by
        unfold sigS
        split
        · rename_i h; simp at h; exact absurd h.1 hc
        · rfl
      rw [e]
      exact Ev.now _
theorem dmethod_f (s : ByteArray) (hs : s.size ≤ 140737488355328) : Ev (fun k => desc_Method.f k s) (mth s) := by
  unfold desc_Method.f mth
  by_cases h : isInit s
  · rw [if_pos h]; exact Ev_pos h (Ev.now _)
  · rw [if_neg h]; exact Ev_neg h (Ev.bind (dname_f s hs) (Ev.now _))
end Go.Proofs.YtldejfkplnejjaaDoor.Pure
namespace Go.Proofs.YtldejfkplnejjaaDoor.Pure
open Go.RowKit Go.Proofs.YtldejfkplnejjaaDoor.P Go.Proofs.YtldejfkplnejjaaDoorW.PrintWords
set_option linter.unusedVariables false
abbrev En := S50
def kindS (l : List En) (i w : Int) : Option En := if 0 ≤ i then (match l[i.toNat]? with | some x => if x.f0 = w then some x else none | none => none) else none
def kindV : Option En → Int × ByteArray × Int × Int × Int × Int × Int
  | some x => (x.f0, x.f1, x.f2, x.f3, x.f4, x.f5, 0)
  | none => (0, ⟨#[]⟩, 0, 0, 0, 0, 16)
theorem rdE {l : List En} {i : Int} {x : En} (h0 : 0 ≤ i) (h : l[i.toNat]? = some x) : rd_T50 l i = x := by
  have : i = ((i.toNat : Nat) : Int) := by omega
  exact getD_at this h
theorem kindS_in {l : List En} {i w : Int} {x : En} (h : kindS l i w = some x) : x ∈ l ∧ 0 ≤ i ∧ i < l.length ∧ l[i.toNat]? = some x ∧ x.f0 = w := by
  unfold kindS at h
  split at h
  · rename_i h0
    split at h
    · rename_i y hy
      split at h
      · rename_i hw
        obtain rfl := Option.some.inj h
        exact ⟨List.mem_of_getElem? hy, h0, by have := (List.getElem?_eq_some_iff.1 hy).1; omega, hy, hw⟩
      · cases h
    · cases h
  · cases h
theorem kind_f (l : List En) (i w : Int) : pool_kind.f l i w = some (kindV (kindS l i w)) := by
  unfold pool_kind.f
  by_cases h0 : i < 0
  · rw [if_pos h0]; unfold kindS; rw [if_neg (by omega)]; rfl
  rw [if_neg h0]
  by_cases h1 : i ≥ (l.length : Int)
  · rw [if_pos h1]; unfold kindS; rw [if_pos (by omega), List.getElem?_eq_none (by omega)]; rfl
  have hp0 : 0 ≤ i := by omega
  rw [if_neg h1, if_pos hp0, if_pos (show i < (l.length : Int) by omega)]
  obtain ⟨x, hx⟩ := at_of (l := l) (j := i.toNat) (by omega)
  rw [rdE hp0 hx]
  have hk : kindS l i w = if x.f0 = w then some x else none := by
    unfold kindS
    rw [if_pos hp0, hx]
  rw [hk]
  by_cases hw : x.f0 = w
  · rw [if_pos hw, if_pos hw]; rfl
  · rw [if_neg hw, if_neg hw]; rfl
def Small (l : List En) : Prop := ∀ x ∈ l, x.f1.size ≤ 1000000000
def namedS (m : Bool) (l : List En) (i : Int) : Int := match kindS l i 1 with
  | none => 16
  | some x => if (if m = true then mth x.f1 else nm x.f1) = true then 0 else 14
def typedS (l : List En) (i : Int) : Int := match kindS l i 1 with
  | none => 16
  | some x => (typeL (LL x.f1)).2.2
def signedS (l : List En) (i : Int) : Int := match kindS l i 1 with
  | none => 16
  | some x => (sigS (LL x.f1)).2.2.2.2
theorem named_f (m : Bool) (l : List En) (hl : Small l) (i : Int) : Ev (fun k => pool_named.f k m l i) (namedS m l i) := by
  unfold pool_named.f namedS
  refine Ev_bindc (kind_f l i 1) ?_
  cases h : kindS l i 1 with
  | none => exact Ev_neg (show ¬ ((16 : Int) = 0) by omega) (Ev.now _)
  | some x =>
    have hs := hl x (kindS_in h).1
    refine Ev_pos rfl ?_
    cases m with
    | true => exact Ev.bind (dmethod_f x.f1 (by omega)) (Ev.now _)
    | false => exact Ev.bind (dname_f x.f1 (by omega)) (Ev.now _)
theorem typed_f (l : List En) (hl : Small l) (i : Int) : Ev (fun k => pool_typed.f k l i) (typedS l i) := by
  unfold pool_typed.f typedS
  refine Ev_bindc (kind_f l i 1) ?_
  cases h : kindS l i 1 with
  | none => exact Ev_neg (show ¬ ((16 : Int) = 0) by omega) (Ev.now _)
  | some x =>
    have hs := hl x (kindS_in h).1
    exact Ev_pos rfl (Ev.bind (type_f x.f1 (by omega)) (Ev.now _))
theorem signed_f (l : List En) (hl : Small l) (i : Int) : Ev (fun k => pool_signed.f k l i) (signedS l i) := by
  unfold pool_signed.f signedS
  refine Ev_bindc (kind_f l i 1) ?_
  cases h : kindS l i 1 with
  | none => exact Ev_neg (show ¬ ((16 : Int) = 0) by omega) (Ev.now _)
  | some x =>
    have hs := hl x (kindS_in h).1
    exact Ev_pos rfl (Ev.bind (dsig_f x.f1 (by omega)) (Ev.now _))
def usesS (l : List En) (x : En) : Int :=
  if x.f0 = 1 then (if (x.f1.size : Int) > 255 then 5 else 0) else if x.f0 = 2 then 0 else if x.f0 = 3 then namedS false l x.f3 else if x.f0 = 4 then typedS l x.f3
  else match kindS l x.f3 3 with
    | none => 16
    | some _ => if x.f0 = 6 then (if namedS true l x.f4 = 0 then signedS l x.f5 else namedS true l x.f4) else (if namedS false l x.f4 = 0 then typedS l x.f5 else namedS false l x.f4)
theorem uses_f (l : List En) (hl : Small l) (x : En) : Ev (fun k => pool_uses.f k l x.f0 x.f1 x.f2 x.f3 x.f4 x.f5) (usesS l x) := by
  unfold pool_uses.f usesS
  by_cases h1 : x.f0 = 1
  · rw [if_pos h1]
    refine Ev_pos h1 ?_
    by_cases h : (x.f1.size : Int) > 255
    · refine Ev_pos h ?_; rw [if_pos h]; exact Ev.now _
    · refine Ev_neg h ?_; rw [if_neg h]; exact Ev.now _
  rw [if_neg h1]
  refine Ev_neg h1 ?_
  by_cases h2 : x.f0 = 2
  · rw [if_pos h2]; exact Ev_pos h2 (Ev.now _)
  rw [if_neg h2]
  refine Ev_neg h2 ?_
  by_cases h3 : x.f0 = 3
  · rw [if_pos h3]; exact Ev_pos h3 (named_f false l hl _)
  rw [if_neg h3]
  refine Ev_neg h3 ?_
  by_cases h4 : x.f0 = 4
  · rw [if_pos h4]; exact Ev_pos h4 (typed_f l hl _)
  rw [if_neg h4]
  refine Ev_neg h4 (Ev_bindc (kind_f l x.f3 3) ?_)
  cases h : kindS l x.f3 3 with
  | none => exact Ev_neg (show ¬ ((16 : Int) = 0) by omega) (Ev.now _)
  | some y =>
    refine Ev_pos rfl ?_
    simp only
    by_cases h6 : x.f0 = 6
    · rw [if_pos h6]
      refine Ev_pos h6 (Ev.bind (named_f true l hl _) ?_)
      by_cases he : namedS true l x.f4 = 0
      · rw [if_pos he]; exact Ev_pos he (signed_f l hl _)
      · rw [if_neg he]; exact Ev_neg he (Ev.now _)
    · rw [if_neg h6]
      refine Ev_neg h6 (Ev.bind (named_f false l hl _) ?_)
      by_cases he : namedS false l x.f4 = 0
      · rw [if_pos he]; exact Ev_pos he (typed_f l hl _)
      · rw [if_neg he]; exact Ev_neg he (Ev.now _)
def clean (x : En) : Prop := (x.f0 ≠ 1 → LL x.f1 = []) ∧ (x.f0 ≠ 2 → x.f2 = 0) ∧ (x.f0 = 1 ∨ x.f0 = 2 → x.f3 = 0) ∧ (x.f0 ≠ 5 ∧ x.f0 ≠ 6 → x.f4 = 0 ∧ x.f5 = 0)
instance (x : En) : Decidable (clean x) := by unfold clean; exact inferInstance
def wrongS (l : List En) (x : En) : Int := if x.f0 < 1 ∨ 6 < x.f0 then 3 else if clean x then usesS l x else 1
theorem wrong_f (l : List En) (hl : Small l) (x : En) : Ev (fun k => pool_wrong.f k l x.f0 x.f1 x.f2 x.f3 x.f4 x.f5) (wrongS l x) := by
  have hu : ∀ {f : Nat → Option Int}, (∀ k, f k = (pool_uses.f k l x.f0 x.f1 x.f2 x.f3 x.f4 x.f5).bind fun t => some t) → Ev f (usesS l x) := fun {f} hf => by
    rw [show f = fun k => (pool_uses.f k l x.f0 x.f1 x.f2 x.f3 x.f4 x.f5).bind fun t => some t from funext hf]
    exact Ev.bind (uses_f l hl x) (Ev.now _)
  have go : ∀ (b : Bool), (b = true ↔ ¬ clean x) → 1 ≤ x.f0 → x.f0 ≤ 6 → Ev (fun k => if b = true then (some (1 : Int)) else ((pool_uses.f k l x.f0 x.f1 x.f2 x.f3 x.f4 x.f5).bind fun t => (some t))) (wrongS l x) := fun b hb h0 h1 => by
    unfold wrongS
    rw [if_neg (by omega)]
    by_cases hc : clean x
    · rw [if_pos hc]
      exact Ev_neg (fun h => (hb.1 h) hc) (hu fun _ => rfl)
    · rw [if_neg hc]
      exact Ev_pos (hb.2 hc) (Ev.now _)
  unfold pool_wrong.f
  by_cases h1 : x.f0 = 1
  · refine Ev_pos h1 (go _ ?_ (by omega) (by omega))
    simp [clean, h1]
    omega
  refine Ev_neg h1 ?_
  by_cases h2 : x.f0 = 2
  · refine Ev_pos h2 (go _ ?_ (by omega) (by omega))
    simp [clean, h2, toList_LL]
    constructor <;> intro h <;> grind
  refine Ev_neg h2 ?_
  have j1 : ∀ b : Bool, b = decide (x.f0 = 5 ∨ x.f0 = 6) → x.f0 ≠ 3 → x.f0 ≠ 4 → Ev (fun k => pool_wrong.j1 k l b x.f0 x.f1 x.f2 x.f3 x.f4 x.f5 x.f0 ⟨#[]⟩ 0 0 0 0) (wrongS l x) := fun b hb h3 h4 => by
    refine Ev.step (fun k => by rw [pool_wrong.j1]) ?_
    by_cases h56 : x.f0 = 5 ∨ x.f0 = 6
    · rw [hb, decide_eq_true h56]
      refine Ev_pos rfl (go _ ?_ (by omega) (by omega))
      simp [clean, h1, h2, toList_LL, LL]
      grind
    · rw [hb, decide_eq_false h56]
      refine Ev_neg Bool.false_ne_true ?_
      unfold wrongS
      rw [if_pos (by omega)]
      exact Ev.now _
  have j0 : ∀ b : Bool, b = decide (x.f0 = 3 ∨ x.f0 = 4) → Ev (fun k => pool_wrong.j0 k l x.f0 b x.f0 x.f1 x.f2 x.f3 x.f4 x.f5 x.f0 ⟨#[]⟩ 0 0 0 0) (wrongS l x) := fun b hb => by
    refine Ev.step (fun k => by rw [pool_wrong.j0]) ?_
    by_cases h34 : x.f0 = 3 ∨ x.f0 = 4
    · rw [hb, decide_eq_true h34]
      refine Ev_pos rfl (go _ ?_ (by omega) (by omega))
      simp [clean, h1, h2, toList_LL, LL]
      grind
    · rw [hb, decide_eq_false h34]
      refine Ev_neg Bool.false_ne_true ?_
      by_cases h5 : x.f0 = 5
      · exact Ev_pos h5 (j1 _ (by simp [h5]) (by omega) (by omega))
      · exact Ev_neg h5 (j1 _ (by rw [Bool.eq_iff_iff]; simp [h5]) (by omega) (by omega))
  by_cases h3 : x.f0 = 3
  · exact Ev_pos h3 (j0 _ (by simp [h3]))
  · exact Ev_neg h3 (j0 _ (by rw [Bool.eq_iff_iff]; simp [h3]))
end Go.Proofs.YtldejfkplnejjaaDoor.Pure
namespace Go.Proofs.YtldejfkplnejjaaDoor.Pure
open Go.RowKit Go.Proofs.YtldejfkplnejjaaDoor.P Go.Proofs.YtldejfkplnejjaaDoorW.PrintWords
set_option linter.unusedVariables false
end Go.Proofs.YtldejfkplnejjaaDoor.Pure
namespace Go.Proofs.YtldejfkplnejjaaDoor.Pure
open Go.RowKit Go.Proofs.YtldejfkplnejjaaDoor.P Go.Proofs.YtldejfkplnejjaaDoorW.PrintWords
set_option linter.unusedVariables false
theorem letterS_d {c : Int} (h : 48 ≤ c ∧ c ≤ 57) : letterS c false = true := by unfold letterS; rw [decide_eq_true h]; simp
theorem rname_l (s : ByteArray) (hs : s.size ≤ 140737488355328) : ∀ (d j : Nat), j + d = s.size →
    Ev (fun k => keystoneref2_Name.l0 k s (j : Int)) (allL (decide (j = 0)) ((LL s).drop j))
  | 0, j, hj => by
    refine Ev.step (fun k => by rw [keystoneref2_Name.l0]) (Ev_neg (by omega) ?_)
    rw [List.drop_of_length_le (by rw [LL_length]; omega)]
    exact Ev.now _
  | d + 1, j, hj => by
    obtain ⟨c, hc⟩ := at_of (l := LL s) (j := j) (by rw [LL_length]; omega)
    rw [drop_at hc, allL]
    have hb := bt_of hc
    have ih := rname_l s hs d (j + 1) (by omega)
    rw [show decide (j + 1 = 0) = false by simp] at ih
    generalize (c.toNat : Int) = b at hb
    refine Ev.step (fun k => by rw [keystoneref2_Name.l0, hb, show wrap64 ((j : Int) + 1) = ((j + 1 : Nat) : Int) by rw [w64] <;> omega]) (Ev_pos (by omega) (Ev_pos (by omega) ?_))
    by_cases h : (97 ≤ b ∧ b ≤ 122) ∨ (65 ≤ b ∧ b ≤ 90) ∨ b = 95
    · rw [letterS_t h, Bool.true_and]
      refine Ev_ite (fun h1 => Ev_ite (fun h2 => ih) (fun h2 => Ev_ite (fun h3 => Ev_ite (fun h4 => ih) (fun h4 => ?_)) (fun h3 => Ev_pos (by omega) ih))) (fun h1 => Ev_ite (fun h3 => Ev_ite (fun h4 => ih) (fun h4 => ?_)) (fun h3 => Ev_pos (by omega) ih))
      all_goals exfalso; omega
    · have rest : Ev (fun k => if b ≥ 48 then (if b ≤ 57 then (if (j : Int) > 0 then (keystoneref2_Name.l0 k s ((j + 1 : Nat) : Int)) else (some false)) else (some false)) else (some false)) (letterS b (decide (j = 0)) && allL false ((LL s).drop (j + 1))) := by
        by_cases hd : 48 ≤ b ∧ b ≤ 57
        · refine Ev_pos hd.1 (Ev_pos hd.2 ?_)
          by_cases h0 : j = 0
          · rw [decide_eq_true h0, letterS_n h (.inl rfl)]; exact Ev_neg (by omega) (Ev.now _)
          · rw [decide_eq_false h0, letterS_d hd, Bool.true_and]; exact Ev_pos (by omega) ih
        · rw [letterS_n h (.inr hd)]
          refine Ev_ite (fun h1 => Ev_neg (by omega) (Ev.now _)) (fun h1 => Ev.now _)
      refine Ev_ite (fun h1 => Ev_neg (by omega) (Ev_ite (fun h3 => Ev_neg (by omega) (Ev_neg (by omega) rest)) (fun h3 => Ev_neg (by omega) rest))) (fun h1 => Ev_ite (fun h3 => Ev_neg (by omega) (Ev_neg (by omega) rest)) (fun h3 => Ev_neg (by omega) rest))
theorem rname_j (s : ByteArray) (b : Bool) (hs : s.size ≤ 140737488355328) : Ev (fun k => keystoneref2_Name.j0 k s b) (if b = true then false else allL true (LL s)) := by
  refine Ev.step (fun k => by rw [keystoneref2_Name.j0]) ?_
  cases b with
  | true => exact Ev_pos rfl (Ev.now _)
  | false =>
    refine Ev_neg Bool.false_ne_true ?_
    have h := rname_l s hs s.size 0 (Nat.zero_add _)
    rwa [show decide (0 = 0) = true from rfl, List.drop_zero] at h
theorem rname_f (s : ByteArray) (hs : s.size ≤ 140737488355328) : Ev (fun k => keystoneref2_Name.f k s) (nm s) := by
  unfold keystoneref2_Name.f nm nmL
  rw [LL_length]
  by_cases h : (s.size : Int) < 1
  · have e : LL s = [] := List.length_eq_zero_iff.1 (by rw [LL_length]; omega)
    have := rname_j s true hs
    rw [if_pos rfl] at this
    rw [e, show (decide (([] : List UInt8) ≠ [])) = false from rfl, Bool.false_and, Bool.and_false]
    exact Ev_pos h this
  refine Ev_neg h ?_
  have hne : LL s ≠ [] := fun e => by have := LL_length s; rw [e] at this; simp at this; omega
  have := rname_j s (decide ((s.size : Int) > 32)) hs
  refine cast (congrArg _ ?_) this
  rw [decide_eq_true hne, Bool.true_and]
  by_cases h2 : (s.size : Int) > 32
  · rw [decide_eq_true h2, if_pos rfl, decide_eq_false (by omega), Bool.and_false]
  · rw [decide_eq_false h2, if_neg Bool.false_ne_true, decide_eq_true (by omega), Bool.and_true]
theorem semi_le (l : List UInt8) : semi l ≤ l.length := (List.takeWhile_sublist _).length_le
theorem takeWhile_all {p : UInt8 → Bool} : ∀ {l : List UInt8} {j : Nat}, j < (l.takeWhile p).length → ∃ c, l[j]? = some c ∧ p c = true
  | [], j, h => by simp at h
  | a :: l, j, h => by
    by_cases ha : p a = true
    · rw [List.takeWhile_cons_of_pos (p := p) ha, List.length_cons] at h
      cases j with
      | zero => exact ⟨a, rfl, ha⟩
      | succ j => exact takeWhile_all (l := l) (j := j) (by omega)
    · rw [List.takeWhile_cons_of_neg (p := p) ha] at h; simp at h
theorem takeWhile_end {p : UInt8 → Bool} : ∀ {l : List UInt8} {c : UInt8}, l[(l.takeWhile p).length]? = some c → p c = false
  | [], c, h => by simp at h
  | a :: l, c, h => by
    by_cases ha : p a = true
    · rw [List.takeWhile_cons_of_pos (p := p) ha, List.length_cons, List.getElem?_cons_succ] at h
      exact takeWhile_end (l := l) h
    · rw [List.takeWhile_cons_of_neg (p := p) ha] at h
      simp at h; subst h; simpa using ha
theorem brk_91 (t : List UInt8) : brk (91 :: t) = brk t + 1 := by unfold brk; rw [List.takeWhile_cons_of_pos (p := (· == (91 : UInt8))) rfl]; rfl
theorem brk_no {c : UInt8} (h : c ≠ 91) (t : List UInt8) : brk (c :: t) = 0 := by unfold brk; rw [List.takeWhile_cons_of_neg (p := (· == (91 : UInt8))) (by simpa using h)]; rfl
theorem u8_eq {c : UInt8} {n : Nat} (hn : n < 256) : ((c.toNat : Int) = (n : Int)) ↔ c = UInt8.ofNat n := by
  constructor
  · intro h
    apply UInt8.toNat_inj.1
    rw [UInt8.toNat_ofNat']
    omega
  · rintro rfl
    rw [UInt8.toNat_ofNat']
    omega
theorem semi_at (t : List UInt8) (h : semi t < t.length) : t[semi t]? = some 59 := by
  obtain ⟨c, hc⟩ := at_of (l := t) h
  have := takeWhile_end (p := (· != (59 : UInt8))) (l := t) (c := c) hc
  rw [hc]; simp at this; rw [this]
theorem first_rest {l : List UInt8} {n : Nat} {m r : List UInt8} (h : firstL l = some (n, m, r)) : ∃ p, p ++ r = l := by
  unfold firstL at h
  split at h
  · cases h
  · split at h
    · cases h
    · rename_i c t hd
      have hl : l = l.take (brk l) ++ c :: t := by rw [← hd, List.take_append_drop]
      split at h
      · simp only [Option.some.injEq, Prod.mk.injEq] at h
        obtain ⟨rfl, rfl, rfl⟩ := h
        exact ⟨l.take (brk l) ++ [c], by rw [List.append_assoc]; exact hl.symm⟩
      · split at h
        · split at h
          · simp only [Option.some.injEq, Prod.mk.injEq] at h
            obtain ⟨rfl, rfl, rfl⟩ := h
            refine ⟨l.take (brk l) ++ c :: t.take (semi t + 1), ?_⟩
            rw [List.append_assoc, List.cons_append, List.take_append_drop]
            exact hl.symm
          · cases h
        · cases h
def firstN (n : Nat) (l : List UInt8) : Option (Nat × List UInt8 × List UInt8) :=
  if 8 < n + brk l then none else match l.drop (brk l) with
    | [] => none
    | c :: t => if c = 73 then some (n + brk l, [], t) else if c = 76 then (if semi t < t.length ∧ nmL (t.take (semi t)) = true then some (n + brk l, t.take (semi t), t.drop (semi t + 1)) else none) else none
theorem firstN_0 (l : List UInt8) : firstN 0 l = firstL l := by unfold firstN firstL; first | (simp only [Nat.zero_add]; done) | (simp only [Nat.zero_add]; rfl)
theorem firstN_91 (n : Nat) (t : List UInt8) : firstN n (91 :: t) = firstN (n + 1) t := by
  unfold firstN
  rw [brk_91, List.drop_succ_cons, show n + (brk t + 1) = n + 1 + brk t by omega]
def oneR (g : Int × ByteArray) (size : Nat) : Option (Nat × List UInt8 × List UInt8) → Int × ByteArray × Int
  | none => (g.1, g.2, -1)
  | some (n, m, r) => ((n : Int), BA m, ((size - r.length : Nat) : Int))
theorem scan_l (s : ByteArray) (hs : s.size ≤ 140737488355328) (a : Nat) (x : Int) (y : ByteArray) : ∀ (d e : Nat), e + d = semi ((LL s).drop (a + 1)) → a + 1 + semi ((LL s).drop (a + 1)) ≤ s.size →
    Ev (fun k => keystoneref2_one.l1 k s (a : Int) ((a + 1 + e : Nat) : Int) x y) (if semi ((LL s).drop (a + 1)) < ((LL s).drop (a + 1)).length ∧ nmL (((LL s).drop (a + 1)).take (semi ((LL s).drop (a + 1)))) = true then (x, BA (((LL s).drop (a + 1)).take (semi ((LL s).drop (a + 1)))), ((a + 1 + semi ((LL s).drop (a + 1)) + 1 : Nat) : Int)) else (x, y, -1)) 
  | 0, e, he, hle => by
    have hl := LL_length s
    have hdl : ((LL s).drop (a + 1)).length = s.size - (a + 1) := by rw [List.length_drop, hl]
    generalize ht : (LL s).drop (a + 1) = t at he hle hdl
    have hw : wrap64 ((a : Int) + 1) = ((a + 1 : Nat) : Int) := by rw [w64] <;> omega
    refine Ev.step (fun k => by rw [keystoneref2_one.l1, hw]) ?_
    by_cases h : semi t < t.length
    · have h59 : (LL s)[a + 1 + e]? = some 59 := by
        have := semi_at t h
        rw [← ht, List.getElem?_drop] at this
        rw [← ht] at he
        rwa [show a + 1 + e = a + 1 + semi ((LL s).drop (a + 1)) by omega]
      have hbt := bt_of h59
      have hex : s.extract (((a + 1 : Nat) : Int)).toNat (((a + 1 + e : Nat) : Int)).toNat = BA (t.take (semi t)) := by
        refine BA_eq ?_
        rw [LL_extract, Int.toNat_natCast, Int.toNat_natCast, ← ht]
        rw [← ht] at he
        rw [List.drop_take]
        congr 1
        omega
      rw [hex]
      refine Ev_pos (by omega) (Ev_pos (by omega) (Ev_pos (by rw [hbt]; rfl) (Ev_neg (by omega) (Ev_pos (by omega) (Ev_pos (by omega) (Ev_pos (by omega) (Ev.bind (rname_f _ (by rw [BA_size, List.length_take]; omega)) ?_)))))))
      have hnm : nm (BA (t.take (semi t))) = nmL (t.take (semi t)) := by unfold nm; rw [LL_BA]
      rw [hnm]
      by_cases h4 : nmL (t.take (semi t)) = true
      · refine Ev_pos h4 ?_
        rw [if_pos ⟨h, h4⟩, show wrap64 (((a + 1 + e : Nat) : Int) + 1) = ((a + 1 + semi t + 1 : Nat) : Int) by rw [w64] <;> omega]
        exact Ev.now _
      · refine Ev_neg h4 ?_
        rw [if_neg (fun hh => h4 hh.2)]
        exact Ev.now _
    · have hs2 := semi_le t
      refine Ev_neg (by omega) (Ev_pos (by omega) ?_)
      rw [if_neg (fun hh => h hh.1)]
      exact Ev.now _
  | d + 1, e, he, hle => by
    have hl := LL_length s
    have hdl : ((LL s).drop (a + 1)).length = s.size - (a + 1) := by rw [List.length_drop, hl]
    have ih := scan_l s hs a x y d (e + 1) (by omega) hle
    obtain ⟨c, hc, hp⟩ := takeWhile_all (p := (· != (59 : UInt8))) (l := (LL s).drop (a + 1)) (j := e) (by unfold semi at he; omega)
    have hs2 := semi_le ((LL s).drop (a + 1))
    rw [List.getElem?_drop] at hc
    have hbt := bt_of hc
    have hne : ¬ ((c.toNat : Int) = 59) := fun h => by
      have := (u8_eq (c := c) (n := 59) (by omega)).1 h
      subst this
      simp at hp
    refine Ev.step (fun k => by rw [keystoneref2_one.l1, hbt]) (Ev_pos (by omega) (Ev_pos (by omega) (Ev_neg hne ?_)))
    rw [show wrap64 (((a + 1 + e : Nat) : Int) + 1) = ((a + 1 + (e + 1) : Nat) : Int) by rw [w64] <;> omega]
    exact ih
theorem one_j (s : ByteArray) (hs : s.size ≤ 140737488355328) (a n : Nat) (hn : n ≤ 140737488355328) (ha : a ≤ s.size) (h0 : brk ((LL s).drop a) = 0) :
    ∃ g, Ev (fun k => keystoneref2_one.j1 k s (a : Int) (n : Int) ⟨#[]⟩) (oneR g s.size (firstN n ((LL s).drop a))) := by
  refine ⟨((n : Int), ⟨#[]⟩), ?_⟩
  have hl := LL_length s
  have hdl : ((LL s).drop a).length = s.size - a := by rw [List.length_drop, hl]
  have bad : Ev (fun k => keystoneref2_one.j2 k s (a : Int) true (n : Int) ⟨#[]⟩) (((n : Int), ⟨#[]⟩, -1) : Int × ByteArray × Int) := by
    refine Ev.step (fun k => by rw [keystoneref2_one.j2]) ?_
    exact Ev_pos rfl (Ev.now _)
  refine Ev.step (fun k => by rw [keystoneref2_one.j1]) ?_
  unfold firstN
  rw [h0, Nat.add_zero, List.drop_zero]
  by_cases h8 : 8 < n
  · rw [if_pos h8]; exact Ev_pos (by omega) bad
  rw [if_neg h8]
  refine Ev_neg (by omega) ?_
  by_cases hsz : a = s.size
  · rw [decide_eq_true (by omega)]
    have e : (LL s).drop a = [] := List.length_eq_zero_iff.1 (by omega)
    rw [e]
    exact bad
  rw [decide_eq_false (by omega)]
  obtain ⟨c, hc⟩ := at_of (l := LL s) (j := a) (by omega)
  have hd := drop_at hc
  have hbt := bt_of hc
  rw [hd]
  refine Ev.step (fun k => by rw [keystoneref2_one.j2, hbt]) (Ev_neg Bool.false_ne_true (Ev_pos (by omega) (Ev_pos (by omega) ?_)))
  simp only
  have hw : wrap64 ((a : Int) + 1) = ((a + 1 : Nat) : Int) := by rw [w64] <;> omega
  by_cases h1 : c = 73
  · subst h1
    rw [if_pos rfl]
    refine Ev_pos rfl (Ev_const ?_)
    rw [hw]
    simp only [oneR, List.length_drop, hl]
    rw [show s.size - (s.size - (a + 1)) = a + 1 by omega]; rfl
  rw [if_neg h1]
  refine Ev_neg (fun h => h1 ((u8_eq (n := 73) (by omega)).1 h)) ?_
  by_cases h2 : c = 76
  · subst h2
    rw [if_pos rfl]
    refine Ev_pos rfl ?_
    rw [hw]
    have hsm := semi_le ((LL s).drop (a + 1))
    have hdl2 : ((LL s).drop (a + 1)).length = s.size - (a + 1) := by rw [List.length_drop, hl]
    have := scan_l s hs a (n : Int) ⟨#[]⟩ _ 0 (Nat.zero_add _) (by omega)
    rw [Nat.add_zero] at this
    refine cast (congrArg _ ?_) this
    split
    · rename_i hh
      simp only [oneR, List.length_drop, hl]
      rw [show s.size - (s.size - (a + 1) - (semi ((LL s).drop (a + 1)) + 1)) = a + 1 + semi ((LL s).drop (a + 1)) + 1 by omega]
    · rfl
  · rw [if_neg h2]
    exact Ev_neg (fun h => h2 ((u8_eq (n := 76) (by omega)).1 h)) (Ev.now _)
theorem one_l (s : ByteArray) (hs : s.size ≤ 140737488355328) : ∀ (d a n : Nat), a + d = s.size → n ≤ a →
    ∃ g, Ev (fun k => keystoneref2_one.l0 k s (a : Int) (n : Int) ⟨#[]⟩) (oneR g s.size (firstN n ((LL s).drop a)))
  | 0, a, n, ha, hn => by
    have hl := LL_length s
    obtain ⟨g, hg⟩ := one_j s hs a n (by omega) (by omega) (by rw [List.drop_of_length_le (by omega)]; rfl)
    exact ⟨g, Ev.step (fun k => by rw [keystoneref2_one.l0]) (Ev_neg (by omega) hg)⟩
  | d + 1, a, n, ha, hn => by
    have hl := LL_length s
    obtain ⟨c, hc⟩ := at_of (l := LL s) (j := a) (by omega)
    have hd := drop_at hc
    have hbt := bt_of hc
    by_cases h : c = 91
    · obtain ⟨g, hg⟩ := one_l s hs d (a + 1) (n + 1) (by omega) (by omega)
      refine ⟨g, Ev.step (fun k => by rw [keystoneref2_one.l0, hbt]) (Ev_pos (by omega) (Ev_pos (by omega) (Ev_pos (by rw [h]; rfl) ?_)))⟩
      rw [show wrap64 ((a : Int) + 1) = ((a + 1 : Nat) : Int) by rw [w64] <;> omega, show wrap64 ((n : Int) + 1) = ((n + 1 : Nat) : Int) by rw [w64] <;> omega, hd, h, firstN_91]
      exact hg
    · obtain ⟨g, hg⟩ := one_j s hs a n (by omega) (by omega) (by rw [hd]; exact brk_no h _)
      refine ⟨g, Ev.step (fun k => by rw [keystoneref2_one.l0, hbt]) ?_⟩
      exact Ev_pos (by omega) (Ev_pos (by omega) (Ev_neg (fun e => h ((u8_eq (n := 91) (by omega)).1 e)) hg))
theorem one_f (s : ByteArray) (hs : s.size ≤ 140737488355328) (a : Nat) (ha : a ≤ s.size) : ∃ g, Ev (fun k => keystoneref2_one.f k s (a : Int)) (oneR g s.size (firstL ((LL s).drop a))) := by
  unfold keystoneref2_one.f
  rw [← firstN_0]
  exact one_l s hs (s.size - a) a 0 (by omega) (by omega)
theorem rtype_f (s : ByteArray) (hs : s.size ≤ 140737488355328) : Ev (fun k => keystoneref2_Type.f k s) (typeL (LL s)) := by
  unfold keystoneref2_Type.f typeL
  obtain ⟨g, hg⟩ := one_f s hs 0 (by omega)
  rw [List.drop_zero] at hg
  have hl := LL_length s
  refine Ev.bind hg ?_
  cases h : firstL (LL s) with
  | none => exact Ev_neg (show ¬ ((-1 : Int) = (s.size : Int)) by omega) (Ev.now _)
  | some q =>
    obtain ⟨n, m, r⟩ := q
    obtain ⟨h1, h2, h3⟩ := first_len h
    cases r with
    | nil => exact Ev_pos (show (((s.size - ([] : List UInt8).length : Nat) : Int) = (s.size : Int)) by simp) (Ev.now _)
    | cons x r => exact Ev_neg (show ¬ (((s.size - (x :: r).length : Nat) : Int) = (s.size : Int)) by simp only [List.length_cons] at h1 ⊢; omega) (Ev.now _)
theorem rsig_l : ∀ (f : Nat) (acc : List Ty) (s : ByteArray) (a : Nat), s.size ≤ a + f → a ≤ s.size → s.size ≤ 1000000000000 → acc.length + s.size ≤ 1000000000000 + a → Ev (fun k => keystoneref2_Sig.l0 k s (a : Int) acc false 0 ⟨#[]⟩) (sigP f acc ((LL s).drop a))
  | f, acc, s, a, hf, ha, hs, hacc => by
    have hl := LL_length s
    have hdl : ((LL s).drop a).length = s.size - a := by rw [List.length_drop, hl]
    have hw : wrap64 ((a : Int) + 1) = ((a + 1 : Nat) : Int) := by rw [w64] <;> omega
    refine Ev.step (fun k => by rw [keystoneref2_Sig.l0]) ?_
    match hu : (LL s).drop a, f with
    | [], f =>
      rw [hu] at hdl
      simp only [List.length_nil] at hdl
      refine Ev_neg (by omega) (Ev.step (fun k => by rw [keystoneref2_Sig.j2]) (Ev_neg Bool.false_ne_true (Ev_pos (by omega) ?_)))
      cases f <;> exact Ev.now _
    | c :: t, 0 => rw [hu] at hdl; simp at hdl; omega
    | c :: t, f + 1 =>
      rw [hu] at hdl
      simp only [List.length_cons] at hdl
      have hc : (LL s)[a]? = some c := by
        have : ((LL s).drop a)[0]? = some c := by rw [hu]; rfl
        rw [List.getElem?_drop] at this
        exact this
      have hd := drop_at hc
      rw [hu] at hd
      have ht : t = (LL s).drop (a + 1) := by injection hd
      have hbt := bt_of hc
      refine Ev_pos (by omega) (Ev_pos (by omega) ?_)
      by_cases h41 : c = 41
      · have e : (bt s (a : Int) != 41) = false := by rw [hbt, h41]; rfl
        rw [e]
        refine Ev.step (fun k => by rw [keystoneref2_Sig.j2, hw]) (Ev_neg Bool.false_ne_true (Ev_neg (by omega) (Ev_pos (by omega) (Ev_pos (by omega) ?_))))
        have hx : s.extract (((a + 1 : Nat) : Int)).toNat s.size = BA t := by rw [Int.toNat_natCast, extract_BA, ← ht]
        rw [hx]
        simp only [sigP]
        rw [if_pos h41]
        unfold sigE
        by_cases hv : t = [86]
        · rw [if_pos hv]
          refine Ev_pos (by rw [toList_LL, LL_BA]; exact hv) ?_
          by_cases h16 : 16 < acc.length
          · exact Ev_pos (by omega) (by rw [if_pos h16]; exact Ev.now _)
          · exact Ev_neg (by omega) (by rw [if_neg h16]; exact Ev.now _)
        · rw [if_neg hv]
          refine Ev_neg (by rw [toList_LL, LL_BA]; exact hv) (Ev.bind (rtype_f _ (by rw [BA_size]; omega)) ?_)
          rw [LL_BA]
          unfold typeL
          cases hfl : firstL t with
          | none => exact Ev_neg (by simp) (Ev.now _)
          | some q =>
            obtain ⟨n, m, r⟩ := q
            cases r with
            | nil =>
              refine Ev_pos rfl ?_
              by_cases h16 : 16 < acc.length
              · exact Ev_pos (by omega) (by simp only; rw [if_pos h16]; exact Ev.now _)
              · exact Ev_neg (by omega) (by simp only; rw [if_neg h16]; exact Ev.now _)
            | cons x r => exact Ev_neg (by simp) (Ev.now _)
      · have e : (bt s (a : Int) != 41) = true := by
          rw [hbt]
          simp only [bne_iff_ne, ne_eq]
          exact fun h => h41 ((u8_eq (n := 41) (by omega)).1 h)
        rw [e]
        obtain ⟨g, hg⟩ := one_f s (by omega) a ha
        rw [hu] at hg
        refine Ev.step (fun k => by rw [keystoneref2_Sig.j2]) (Ev_pos rfl (Ev.bind hg ?_))
        simp only [sigP]
        rw [if_neg h41]
        cases hfl : firstL (c :: t) with
        | none => exact Ev_pos (show (-1 : Int) < 0 by omega) (Ev.now _)
        | some q =>
          obtain ⟨n, m, r⟩ := q
          obtain ⟨h1, h2, h3⟩ := first_len hfl
          have hr := first_rest hfl
          simp only [List.length_cons] at h1
          refine Ev_neg (show ¬ (((s.size - r.length : Nat) : Int) < 0) by omega) (Ev_pos (by omega) ?_)
          have ih := rsig_l f (acc ++ [⟨(n : Int), BA m⟩]) s (s.size - r.length) (by omega) (by omega) hs (by simp; omega)
          have e2 : (LL s).drop (s.size - r.length) = r := by
            obtain ⟨p, hp⟩ := hr
            have e3 : LL s = ((LL s).take a ++ p) ++ r := by rw [List.append_assoc, hp, ← hu, List.take_append_drop]
            have e4 : s.size - r.length = ((LL s).take a ++ p).length := by
              have := congrArg List.length e3
              rw [List.length_append, hl] at this
              omega
            rw [e4]
            exact (congrArg (List.drop _) e3).trans List.drop_left
          rw [e2] at ih
          exact ih
theorem rsig_f (s : ByteArray) (hs : s.size ≤ 1000000000000) : Ev (fun k => keystoneref2_Sig.f k s) (sigS (LL s)) := by
  unfold keystoneref2_Sig.f
  have hl := LL_length s
  cases hu : LL s with
  | nil =>
    refine Ev_pos (by rw [toList_LL, hu]) (Ev.step (fun k => by rw [keystoneref2_Sig.j0]) ?_)
    exact Ev_pos rfl (Ev.now _)
  | cons c t =>
    rw [hu] at hl
    simp only [List.length_cons] at hl
    have hc : (LL s)[0]? = some c := by rw [hu]; rfl
    have hbt : bt s 0 = (c.toNat : Int) := bt_of hc
    refine Ev_neg (by rw [toList_LL, hu]; simp) (Ev_pos (by omega) ?_)
    by_cases h : c = 40
    · have e : (bt s 0 != 40) = false := by rw [hbt, h]; rfl
      rw [e]
      refine Ev.step (fun k => by rw [keystoneref2_Sig.j0]) (Ev_neg Bool.false_ne_true ?_)
      have := rsig_l t.length [] s 1 (by omega) (by omega) hs (by simp; omega)
      rw [hu, h] at *
      exact this
    · have e : (bt s 0 != 40) = true := by
        rw [hbt]
        simp only [bne_iff_ne, ne_eq]
        exact fun h' => h ((u8_eq (n := 40) (by omega)).1 h')
      rw [e]
      refine Ev.step (fun k => by rw [keystoneref2_Sig.j0]) (Ev_pos rfl ?_)
      have e : sigS (c :: t) = ([], false, 0, ⟨#[]⟩, 15) := by
        unfold sigS
        split
        · rename_i h2; simp at h2; exact absurd h2.1 h
        · rfl
      rw [e]
      exact Ev.now _
theorem rmethod_f (s : ByteArray) (hs : s.size ≤ 140737488355328) : Ev (fun k => keystoneref2_Method.f k s) (mth s) := by
  unfold keystoneref2_Method.f mth
  by_cases h : isInit s
  · rw [if_pos h]; exact Ev_pos h (Ev.now _)
  · rw [if_neg h]; exact Ev_neg h (Ev.bind (rname_f s hs) (Ev.now _))
end Go.Proofs.YtldejfkplnejjaaDoor.Pure
namespace Go.Proofs.YtldejfkplnejjaaDoor.Pure
open Go.RowKit Go.Proofs.YtldejfkplnejjaaDoor.P Go.Proofs.YtldejfkplnejjaaDoorW.PrintWords
set_option linter.unusedVariables false
theorem kindS_at {l : List En} {i w : Int} (h0 : 0 ≤ i) (h1 : i < l.length) : kindS l i w = if (rd_T50 l i).f0 = w then some (rd_T50 l i) else none := by
  obtain ⟨x, hx⟩ := at_of (l := l) (j := i.toNat) (by omega)
  unfold kindS
  rw [rdE h0 hx, if_pos h0, hx]
theorem ris_f (l : List En) (i w : Int) : keystoneref3_is.f l i w = some (kindS l i w).isSome := by
  unfold keystoneref3_is.f
  by_cases h0 : i ≥ 0
  · rw [if_pos h0]
    by_cases h1 : i < (l.length : Int)
    · rw [if_pos h1, if_pos h0, kindS_at h0 h1]
      by_cases h : (rd_T50 l i).f0 = w
      · rw [if_pos h]; simp [h]
      · rw [if_neg h]; simp [h]
    · rw [if_neg h1]; unfold kindS; rw [if_pos h0, List.getElem?_eq_none (by omega)]; rfl
  · rw [if_neg h0]; unfold kindS; rw [if_neg h0]; rfl
def rtextS (l : List En) (i w : Int) : Int := if w = 1 then namedS false l i else if w = 2 then namedS true l i else if w = 3 then typedS l i else signedS l i
theorem rtext_f (l : List En) (hl : Small l) (i w : Int) (hw : w = 1 ∨ w = 2 ∨ w = 3 ∨ w = 4) : Ev (fun k => keystoneref3_text.f k l i w) (rtextS l i w) := by
  unfold keystoneref3_text.f
  refine Ev_bindc (ris_f l i 1) ?_
  cases h : kindS l i 1 with
  | none =>
    refine Ev_neg (by simp) ?_
    rw [show rtextS l i w = 16 by unfold rtextS namedS typedS signedS; rw [h]; simp]
    exact Ev.now _
  | some x =>
    obtain ⟨hm, h0, h1, hx, _⟩ := kindS_in h
    have hs := hl x hm
    refine Ev_pos rfl (Ev_pos h0 (Ev_pos h1 ?_))
    rw [rdE h0 hx]
    unfold rtextS namedS typedS signedS
    rw [h]
    simp only
    have hn : ∀ (f : Nat → Option Bool) (b : Bool), Ev f b → Ev (fun k => (f k).bind fun t => if t = true then some (0 : Int) else some 14) (if b = true then 0 else 14) := fun f b hb => by
      refine Ev.bind hb ?_
      cases b with
      | true => exact Ev_pos rfl (Ev.now _)
      | false => exact Ev_neg Bool.false_ne_true (Ev.now _)
    by_cases w1 : w = 1
    · rw [if_pos w1]; exact Ev_pos w1 (by simpa using hn _ _ (rname_f x.f1 (by omega)))
    refine Ev_neg w1 ?_
    rw [if_neg w1]
    by_cases w2 : w = 2
    · rw [if_pos w2]; exact Ev_pos w2 (by simpa using hn _ _ (rmethod_f x.f1 (by omega)))
    refine Ev_neg w2 ?_
    rw [if_neg w2]
    by_cases w3 : w = 3
    · rw [if_pos w3]; exact Ev_pos w3 (Ev.bind (rtype_f x.f1 (by omega)) (Ev.now _))
    refine Ev_neg w3 ?_
    rw [if_neg w3]
    exact Ev_pos (by omega) (Ev.bind (rsig_f x.f1 (by omega)) (Ev.now _))
theorem rwrong_j3 (l : List En) (hl : Small l) (x : En) (m : Bool) : Ev (fun k => keystoneref3_Wrong.j3 k l (if m = true then 2 else 1) (if m = true then 4 else 3) x.f0 x.f1 x.f2 x.f3 x.f4 x.f5) (if namedS m l x.f4 = 0 then (if m = true then signedS l x.f5 else typedS l x.f5) else namedS m l x.f4) := by
  refine Ev.step (fun k => by rw [keystoneref3_Wrong.j3]) ?_
  have h1 := rtext_f l hl x.f4 (if m = true then 2 else 1) (by cases m <;> simp)
  have h2 := rtext_f l hl x.f5 (if m = true then 4 else 3) (by cases m <;> simp)
  have e1 : rtextS l x.f4 (if m = true then 2 else 1) = namedS m l x.f4 := by cases m <;> simp [rtextS]
  have e2 : rtextS l x.f5 (if m = true then 4 else 3) = if m = true then signedS l x.f5 else typedS l x.f5 := by cases m <;> simp [rtextS]
  rw [e1] at h1
  rw [e2] at h2
  refine Ev.bind h1 ?_
  by_cases h : namedS m l x.f4 = 0
  · rw [if_pos h]; exact Ev_pos h (Ev.bind h2 (Ev.now _))
  · rw [if_neg h]; exact Ev_neg h (Ev.now _)
theorem rwrong_j2 (l : List En) (hl : Small l) (x : En) (b : Bool) (hb : b = decide (x.f0 = 5 ∨ x.f0 = 6)) (h1 : x.f0 ≠ 1) (h3 : x.f0 ≠ 3) (h4 : x.f0 ≠ 4) (h0 : 1 ≤ x.f0 ∧ x.f0 ≤ 6) : Ev (fun k => keystoneref3_Wrong.j2 k l x.f0 b x.f0 x.f1 x.f2 x.f3 x.f4 x.f5) (usesS l x) := by
  refine Ev.step (fun k => by rw [keystoneref3_Wrong.j2]) ?_
  unfold usesS
  rw [if_neg h1]
  by_cases h2 : x.f0 = 2
  · rw [if_pos h2, hb, decide_eq_false (by omega)]; exact Ev_neg Bool.false_ne_true (Ev.now _)
  rw [if_neg h2, if_neg h3, if_neg h4, hb, decide_eq_true (by omega)]
  refine Ev_pos rfl (Ev_bindc (ris_f l x.f3 3) ?_)
  cases h : kindS l x.f3 3 with
  | none => exact Ev_neg (by simp) (Ev.now _)
  | some c =>
    refine Ev_pos rfl ?_
    simp only
    by_cases h6 : x.f0 = 6
    · rw [if_pos h6]; exact Ev_pos h6 (by simpa using rwrong_j3 l hl x true)
    · rw [if_neg h6]; exact Ev_neg h6 (by simpa using rwrong_j3 l hl x false)
theorem rwrong_j1 (l : List En) (hl : Small l) (x : En) (h0 : 1 ≤ x.f0 ∧ x.f0 ≤ 6) (y : Bool) (hy : y = true ↔ ¬ clean x) : Ev (fun k => keystoneref3_Wrong.j1 k l x.f0 y x.f0 x.f1 x.f2 x.f3 x.f4 x.f5) (wrongS l x) := by
  refine Ev.step (fun k => by rw [keystoneref3_Wrong.j1]) ?_
  have e : wrongS l x = if clean x then usesS l x else 1 := by unfold wrongS; rw [if_neg (by omega)]
  rw [e]
  by_cases hc : clean x
  · rw [if_pos hc]
    refine Ev_neg (fun h => (hy.1 h) hc) ?_
    by_cases h1 : x.f0 = 1
    · have e : usesS l x = if (x.f1.size : Int) > 255 then 5 else 0 := by unfold usesS; rw [if_pos h1]
      rw [e]
      exact Ev_pos h1 (Ev_ite (fun h => by rw [if_pos h]; exact Ev.now _) (fun h => by rw [if_neg h]; exact Ev.now _))
    refine Ev_neg h1 ?_
    by_cases h3 : x.f0 = 3
    · have e : usesS l x = namedS false l x.f3 := by unfold usesS; rw [if_neg h1, if_neg (by omega), if_pos h3]
      rw [e]
      exact Ev_pos h3 (Ev.bind (by simpa [rtextS] using rtext_f l hl x.f3 1 (by simp)) (Ev.now _))
    refine Ev_neg h3 ?_
    by_cases h4 : x.f0 = 4
    · have e : usesS l x = typedS l x.f3 := by unfold usesS; rw [if_neg h1, if_neg (by omega), if_neg h3, if_pos h4]
      rw [e]
      exact Ev_pos h4 (Ev.bind (by simpa [rtextS] using rtext_f l hl x.f3 3 (by simp)) (Ev.now _))
    refine Ev_neg h4 ?_
    by_cases h5 : x.f0 = 5
    · exact Ev_pos h5 (rwrong_j2 l hl x _ (by simp [h5]) h1 h3 h4 h0)
    · exact Ev_neg h5 (rwrong_j2 l hl x _ (by rw [Bool.eq_iff_iff]; simp [h5]) h1 h3 h4 h0)
  · rw [if_neg hc]; exact Ev_pos (hy.2 hc) (Ev.now _)
theorem rwrong_j0 (l : List En) (hl : Small l) (x : En) (b : Bool) (hb : b = decide (x.f0 < 1 ∨ 6 < x.f0)) : Ev (fun k => keystoneref3_Wrong.j0 k l x.f0 b x.f0 x.f1 x.f2 x.f3 x.f4 x.f5) (wrongS l x) := by
  refine Ev.step (fun k => by rw [keystoneref3_Wrong.j0]) ?_
  by_cases h : x.f0 < 1 ∨ 6 < x.f0
  · rw [hb, decide_eq_true h]
    unfold wrongS
    rw [if_pos h]
    exact Ev_pos rfl (Ev.now _)
  rw [hb, decide_eq_false h]
  refine Ev_neg Bool.false_ne_true ?_
  have h0 : 1 ≤ x.f0 ∧ x.f0 ≤ 6 := by omega
  have go := rwrong_j1 l hl x h0
  have hc : clean x ↔ (x.f0 ≠ 1 → x.f1.toList = ([] : List UInt8)) ∧ (x.f0 ≠ 2 → x.f2 = 0) ∧ (x.f0 < 3 → x.f3 = 0) ∧ (x.f0 < 5 → x.f4 = 0 ∧ x.f5 = 0) := by
    unfold clean
    rw [toList_LL]
    constructor
    · rintro ⟨a, b, c, d⟩; exact ⟨a, b, fun h => c (by omega), fun h => d (by omega)⟩
    · rintro ⟨a, b, c, d⟩; exact ⟨a, b, fun h => c (by omega), fun h => d (by omega)⟩
  simp only [hc] at go
  clear hc
  repeat' (refine Ev_ite (fun _ => ?_) (fun _ => ?_))
  all_goals refine go _ ?_
  all_goals (try (exfalso; omega))
  all_goals grind
theorem rwrong_f (l : List En) (hl : Small l) (j : Nat) (x : En) (hx : l[j]? = some x) : Ev (fun k => keystoneref3_Wrong.f k l (j : Int)) (wrongS l x) := by
  have hj := (List.getElem?_eq_some_iff.1 hx).1
  unfold keystoneref3_Wrong.f
  rw [rdE (l := l) (i := (j : Int)) (x := x) (by omega) (by simpa using hx)]
  refine Ev_pos (by omega) (Ev_pos (by omega) ?_)
  by_cases h : x.f0 < 1
  · exact Ev_pos h (rwrong_j0 l hl x true (by rw [decide_eq_true (.inl h)]))
  · exact Ev_neg h (rwrong_j0 l hl x _ (by rw [Bool.eq_iff_iff]; simp; omega))
end Go.Proofs.YtldejfkplnejjaaDoor.Pure
namespace Go.Proofs.YtldejfkplnejjaaDoor.Pure
open Go.RowKit Go.Proofs.YtldejfkplnejjaaDoor.P Go.Proofs.YtldejfkplnejjaaDoorW.PrintWords
set_option linter.unusedVariables false
theorem named_0 {m : Bool} {l : List En} {i : Int} (h : namedS m l i = 0) : ∃ y, kindS l i 1 = some y := by
  unfold namedS at h
  cases hk : kindS l i 1 with
  | none => rw [hk] at h; simp at h
  | some y => exact ⟨y, rfl⟩
theorem typed_0 {l : List En} {i : Int} (h : typedS l i = 0) : ∃ y, kindS l i 1 = some y := by
  unfold typedS at h
  cases hk : kindS l i 1 with
  | none => rw [hk] at h; simp at h
  | some y => exact ⟨y, rfl⟩
theorem signed_0 {l : List En} {i : Int} (h : signedS l i = 0) : ∃ y, kindS l i 1 = some y := by
  unfold signedS at h
  cases hk : kindS l i 1 with
  | none => rw [hk] at h; simp at h
  | some y => exact ⟨y, rfl⟩
theorem wrong_uses {l : List En} {x : En} (h : wrongS l x = 0) : usesS l x = 0 := by
  unfold wrongS at h
  split at h
  · simp at h
  · split at h
    · exact h
    · simp at h
theorem use_class {l : List En} {x : En} (h : wrongS l x = 0) (hk : x.f0 = 3) : ∃ y, kindS l x.f3 1 = some y := by
  have hu := wrong_uses h
  unfold usesS at hu
  rw [if_neg (by omega), if_neg (by omega), if_pos hk] at hu
  exact named_0 hu
theorem use_type {l : List En} {x : En} (h : wrongS l x = 0) (hk : x.f0 = 4) : ∃ y, kindS l x.f3 1 = some y := by
  have hu := wrong_uses h
  unfold usesS at hu
  rw [if_neg (by omega), if_neg (by omega), if_neg (by omega), if_pos hk] at hu
  exact typed_0 hu
theorem use_member {l : List En} {x : En} (h : wrongS l x = 0) (hk : x.f0 = 5 ∨ x.f0 = 6) : (∃ c, kindS l x.f3 3 = some c) ∧ (∃ y, kindS l x.f4 1 = some y) ∧ ∃ z, kindS l x.f5 1 = some z := by
  have hu := wrong_uses h
  unfold usesS at hu
  rw [if_neg (by omega), if_neg (by omega), if_neg (by omega), if_neg (by omega)] at hu
  cases hc : kindS l x.f3 3 with
  | none => rw [hc] at hu; simp at hu
  | some c =>
    rw [hc] at hu
    simp only at hu
    refine ⟨⟨c, rfl⟩, ?_⟩
    by_cases h6 : x.f0 = 6
    · rw [if_pos h6] at hu
      by_cases he : namedS true l x.f4 = 0
      · rw [if_pos he] at hu; exact ⟨named_0 he, signed_0 hu⟩
      · rw [if_neg he] at hu; exact absurd hu he
    · rw [if_neg h6] at hu
      by_cases he : namedS false l x.f4 = 0
      · rw [if_pos he] at hu; exact ⟨named_0 he, typed_0 hu⟩
      · rw [if_neg he] at hu; exact absurd hu he
def rightS (l : List En) (i w : Int) : Option En × Int := match kindS l i w with
  | none => (none, 16)
  | some x => if wrongS l x = 0 then (some x, 0) else (none, wrongS l x)
def rightV : Option En × Int → Int × ByteArray × Int × Int × Int × Int × Int
  | (some x, _) => (x.f0, x.f1, x.f2, x.f3, x.f4, x.f5, 0)
  | (none, e) => (0, ⟨#[]⟩, 0, 0, 0, 0, e)
theorem right_f (l : List En) (hl : Small l) (i w : Int) : Ev (fun k => pool_right.f k l i w) (rightV (rightS l i w)) := by
  unfold pool_right.f rightS
  refine Ev_bindc (kind_f l i w) ?_
  cases h : kindS l i w with
  | none => exact Ev_neg (show ¬ ((16 : Int) = 0) by omega) (Ev.now _)
  | some x =>
    refine Ev_pos rfl (Ev.bind (wrong_f l hl x) ?_)
    simp only
    by_cases hw : wrongS l x = 0
    · have e : (if wrongS l x = 0 then (some x, (0 : Int)) else (none, wrongS l x)) = (some x, 0) := if_pos hw
      rw [e]; exact Ev_pos hw (Ev.now _)
    · have e : (if wrongS l x = 0 then (some x, (0 : Int)) else (none, wrongS l x)) = (none, wrongS l x) := if_neg hw
      rw [e]; exact Ev_neg hw (Ev.now _)
theorem right_cases (l : List En) (i w : Int) : (∃ x, rightS l i w = (some x, 0) ∧ kindS l i w = some x ∧ wrongS l x = 0 ∧ x.f0 = w) ∨ ∃ e, e ≠ 0 ∧ rightS l i w = (none, e) := by
  unfold rightS
  cases h : kindS l i w with
  | none => exact .inr ⟨16, by omega, rfl⟩
  | some x =>
    simp only
    by_cases hw : wrongS l x = 0
    · exact .inl ⟨x, by rw [if_pos hw], rfl, hw, (kindS_in h).2.2.2.2⟩
    · exact .inr ⟨_, hw, by rw [if_neg hw]⟩
end Go.Proofs.YtldejfkplnejjaaDoor.Pure
namespace Go.Proofs.YtldejfkplnejjaaDoor.Pure
open Go.RowKit Go.Proofs.YtldejfkplnejjaaDoor.P Go.Proofs.YtldejfkplnejjaaDoorW.PrintWords
set_option linter.unusedVariables false
def txtOf (l : List En) (i : Int) : ByteArray := (rd_T50 l i).f1
abbrev eB : ByteArray := ⟨#[]⟩
def numberV (l : List En) (i : Int) : Int × Int := match rightS l i 2 with
  | (some x, _) => (x.f2, 0)
  | (none, e) => (0, e)
def classV (l : List En) (i : Int) : ByteArray × Int := match rightS l i 3 with
  | (some x, _) => (txtOf l x.f3, 0)
  | (none, e) => (eB, e)
def ptypeV (l : List En) (i : Int) : Int × ByteArray × Int := match rightS l i 4 with
  | (some x, _) => typeL (LL (txtOf l x.f3))
  | (none, e) => (0, eB, e)
def fieldV (l : List En) (i : Int) : ByteArray × ByteArray × Int × ByteArray × Int := match rightS l i 5 with
  | (some x, _) => if (classV l x.f3).2 = 0 then ((classV l x.f3).1, txtOf l x.f4, typeL (LL (txtOf l x.f5))) else (eB, eB, 0, eB, (classV l x.f3).2)
  | (none, e) => (eB, eB, 0, eB, e)
def methodV (l : List En) (i : Int) : ByteArray × ByteArray × SigV := match rightS l i 6 with
  | (some x, _) => if (classV l x.f3).2 = 0 then ((classV l x.f3).1, txtOf l x.f4, sigS (LL (txtOf l x.f5))) else (eB, eB, [], false, 0, eB, (classV l x.f3).2)
  | (none, e) => (eB, eB, [], false, 0, eB, e)
theorem class_f (l : List En) (hl : Small l) (i : Int) : Ev (fun k => pool_Class.f k l i) (classV l i) := by
  unfold classV
  rcases right_cases l i 3 with ⟨x, hr, hk, hw, h3⟩ | ⟨e, he, hr⟩
  · obtain ⟨y, hy⟩ := use_class hw h3
    have hi := kindS_in hy
    refine Ev.bind (right_f l hl i 3) ?_
    rw [hr]
    exact Ev_pos rfl (Ev_pos hi.2.1 (Ev_pos hi.2.2.1 (Ev.now _)))
  · refine Ev.bind (right_f l hl i 3) ?_
    rw [hr]
    exact Ev_neg he (Ev.now _)
theorem small_txt {l : List En} (hl : Small l) {i : Int} {w : Int} {y : En} (h : kindS l i w = some y) : (txtOf l i).size ≤ 1000000000 := by
  have hi := kindS_in h
  unfold txtOf
  rw [rdE hi.2.1 hi.2.2.2.1]
  exact hl y hi.1
theorem field_f (l : List En) (hl : Small l) (i : Int) : Ev (fun k => pool_Field.f k l i) (fieldV l i) := by
  unfold fieldV
  rcases right_cases l i 5 with ⟨x, hr, hk, hw, h3⟩ | ⟨e, he, hr⟩
  · obtain ⟨_, ⟨y, hy⟩, z, hz⟩ := use_member hw (.inl h3)
    have hi := kindS_in hy
    have hj := kindS_in hz
    have hs := small_txt hl hz
    have hc := class_f l hl x.f3
    refine Ev.bind (right_f l hl i 5) ?_
    rw [hr]
    refine Ev_pos rfl (Ev.bind hc ?_)
    simp only [rightV]
    by_cases h0 : (classV l x.f3).2 = 0
    · rw [if_pos h0]
      exact Ev_pos h0 (Ev_pos hj.2.1 (Ev_pos hj.2.2.1 (Ev.bind (type_f (txtOf l x.f5) (by omega)) (Ev_pos hi.2.1 (Ev_pos hi.2.2.1 (Ev.now _))))))
    · rw [if_neg h0]
      exact Ev_neg h0 (Ev.now _)
  · refine Ev.bind (right_f l hl i 5) ?_
    rw [hr]
    exact Ev_neg he (Ev.now _)
theorem method_f (l : List En) (hl : Small l) (i : Int) : Ev (fun k => pool_Method.f k l i) (methodV l i) := by
  unfold methodV
  rcases right_cases l i 6 with ⟨x, hr, hk, hw, h3⟩ | ⟨e, he, hr⟩
  · obtain ⟨_, ⟨y, hy⟩, z, hz⟩ := use_member hw (.inr h3)
    have hi := kindS_in hy
    have hj := kindS_in hz
    have hs := small_txt hl hz
    have hc := class_f l hl x.f3
    refine Ev.bind (right_f l hl i 6) ?_
    rw [hr]
    refine Ev_pos rfl (Ev.bind hc ?_)
    simp only [rightV]
    by_cases h0 : (classV l x.f3).2 = 0
    · rw [if_pos h0]
      exact Ev_pos h0 (Ev_pos hj.2.1 (Ev_pos hj.2.2.1 (Ev.bind (dsig_f (txtOf l x.f5) (by omega)) (Ev_pos hi.2.1 (Ev_pos hi.2.2.1 (Ev.now _))))))
    · rw [if_neg h0]
      exact Ev_neg h0 (Ev.now _)
  · refine Ev.bind (right_f l hl i 6) ?_
    rw [hr]
    exact Ev_neg he (Ev.now _)
end Go.Proofs.YtldejfkplnejjaaDoor.Pure
namespace Go.Proofs.YtldejfkplnejjaaDoor.Pure
open Go.RowKit Go.Proofs.YtldejfkplnejjaaDoor.P Go.Proofs.YtldejfkplnejjaaDoorW.PrintWords
set_option linter.unusedVariables false
theorem number_f (l : List En) (hl : Small l) (i : Int) : Ev (fun k => pool_Number.f k l i) (numberV l i) := by
  unfold numberV
  rcases right_cases l i 2 with ⟨x, hr, hk, hw, h3⟩ | ⟨e, he, hr⟩ <;>
  · refine Ev.bind (right_f l hl i 2) ?_
    rw [hr]
    exact Ev.now _
theorem ptype_f (l : List En) (hl : Small l) (i : Int) : Ev (fun k => pool_Type.f k l i) (ptypeV l i) := by
  unfold ptypeV
  rcases right_cases l i 4 with ⟨x, hr, hk, hw, h3⟩ | ⟨e, he, hr⟩
  · obtain ⟨y, hy⟩ := use_type hw h3
    have hi := kindS_in hy
    have hs := small_txt hl hy
    refine Ev.bind (right_f l hl i 4) ?_
    rw [hr]
    refine Ev_pos rfl (Ev_pos hi.2.1 (Ev_pos hi.2.2.1 ?_))
    exact Ev.bind (type_f (txtOf l x.f3) (by omega)) (Ev.now _)
  · refine Ev.bind (right_f l hl i 4) ?_
    rw [hr]
    exact Ev_neg he (Ev.now _)
def heldS (l : List En) (i w : Int) : Int := match rightS l i w with
  | (some x, _) => if w ≥ 5 then (rightS l x.f3 3).2 else 0
  | (none, e) => e
theorem rwrong_i (l : List En) (hl : Small l) {i w : Int} {x : En} (h : kindS l i w = some x) : Ev (fun k => keystoneref3_Wrong.f k l i) (wrongS l x) := by
  have hi := kindS_in h
  have := rwrong_f l hl i.toNat x hi.2.2.2.1
  rwa [show ((i.toNat : Nat) : Int) = i by omega] at this
theorem rheld_f (l : List En) (hl : Small l) (i w : Int) : Ev (fun k => keystoneref3_held.f k l i w) (heldS l i w) := by
  unfold keystoneref3_held.f heldS rightS
  refine Ev_bindc (ris_f l i w) ?_
  cases h : kindS l i w with
  | none => exact Ev_neg (by simp) (Ev.now _)
  | some x =>
    have hi := kindS_in h
    refine Ev_pos rfl (Ev.bind (rwrong_i l hl h) ?_)
    simp only
    by_cases h0 : wrongS l x = 0
    · have e : (if wrongS l x = 0 then (some x, (0 : Int)) else (none, wrongS l x)) = (some x, 0) := if_pos h0
      rw [e]
      simp only
      refine Ev_pos h0 ?_
      by_cases h5 : w ≥ 5
      · rw [if_pos h5]
        refine Ev_pos h5 (Ev_pos hi.2.1 (Ev_pos hi.2.2.1 ?_))
        rw [rdE hi.2.1 hi.2.2.2.1]
        have hx := wrong_uses h0
        have hk := hi.2.2.2.2
        have h6 : x.f0 = 5 ∨ x.f0 = 6 := by
          unfold wrongS at h0
          split at h0
          · simp at h0
          · omega
        obtain ⟨⟨c, hc⟩, _⟩ := use_member h0 h6
        rw [hc]
        have e2 : (match some c with | none => ((none : Option En), (16 : Int)) | some x => if wrongS l x = 0 then (some x, 0) else (none, wrongS l x)).2 = wrongS l c := by
          simp only
          split
          · rename_i h; rw [h]
          · rfl
        rw [e2]
        exact Ev.bind (rwrong_i l hl hc) (Ev.now _)
      · rw [if_neg h5]
        exact Ev_neg h5 (by rw [h0]; exact Ev.now _)
    · have e : (if wrongS l x = 0 then (some x, (0 : Int)) else (none, wrongS l x)) = (none, wrongS l x) := if_neg h0
      rw [e]; exact Ev_neg h0 (Ev.now _)
theorem rNumber_f (l : List En) (hl : Small l) (i : Int) : Ev (fun k => keystoneref3_Number.f k l i) (numberV l i) := by
  unfold numberV
  refine Ev.bind (rheld_f l hl i 2) ?_
  unfold heldS
  rcases right_cases l i 2 with ⟨x, hr, hk, hw, h3⟩ | ⟨e, he, hr⟩ <;> rw [hr]
  · have hi := kindS_in hk
    refine Ev_pos (by simp) (Ev_pos hi.2.1 (Ev_pos hi.2.2.1 ?_))
    rw [rdE hi.2.1 hi.2.2.2.1]
    exact Ev.now _
  · exact Ev_neg he (Ev.now _)
theorem rClass_f (l : List En) (hl : Small l) (i : Int) : Ev (fun k => keystoneref3_Class.f k l i) (classV l i) := by
  unfold classV
  refine Ev.bind (rheld_f l hl i 3) ?_
  unfold heldS
  rcases right_cases l i 3 with ⟨x, hr, hk, hw, h3⟩ | ⟨e, he, hr⟩ <;> rw [hr]
  · have hi := kindS_in hk
    obtain ⟨y, hy⟩ := use_class hw h3
    have hj := kindS_in hy
    refine Ev_pos (by simp) (Ev_pos hi.2.1 (Ev_pos hi.2.2.1 ?_))
    rw [rdE hi.2.1 hi.2.2.2.1]
    exact Ev_pos hj.2.1 (Ev_pos hj.2.2.1 (Ev.now _))
  · exact Ev_neg he (Ev.now _)
theorem rType_f (l : List En) (hl : Small l) (i : Int) : Ev (fun k => keystoneref3_Type.f k l i) (ptypeV l i) := by
  unfold ptypeV
  refine Ev.bind (rheld_f l hl i 4) ?_
  unfold heldS
  rcases right_cases l i 4 with ⟨x, hr, hk, hw, h3⟩ | ⟨e, he, hr⟩ <;> rw [hr]
  · have hi := kindS_in hk
    obtain ⟨y, hy⟩ := use_type hw h3
    have hj := kindS_in hy
    have hs := small_txt hl hy
    refine Ev_pos (by simp) (Ev_pos hi.2.1 (Ev_pos hi.2.2.1 ?_))
    rw [rdE hi.2.1 hi.2.2.2.1]
    exact Ev_pos hj.2.1 (Ev_pos hj.2.2.1 (Ev.bind (rtype_f (txtOf l x.f3) (by omega)) (Ev.now _)))
  · exact Ev_neg he (Ev.now _)
theorem typed_v {l : List En} {i : Int} (h : typedS l i = 0) : (typeL (LL (txtOf l i))).2.2 = 0 := by
  obtain ⟨y, hy⟩ := typed_0 h
  have hi := kindS_in hy
  unfold typedS at h
  rw [hy] at h
  unfold txtOf
  rw [rdE hi.2.1 hi.2.2.2.1]
  exact h
theorem signed_v {l : List En} {i : Int} (h : signedS l i = 0) : (sigS (LL (txtOf l i))).2.2.2.2 = 0 := by
  obtain ⟨y, hy⟩ := signed_0 h
  have hi := kindS_in hy
  unfold signedS at h
  rw [hy] at h
  unfold txtOf
  rw [rdE hi.2.1 hi.2.2.2.1]
  exact h
theorem field_typed {l : List En} {x : En} (h : wrongS l x = 0) (hk : x.f0 = 5) : typedS l x.f5 = 0 := by
  have hu := wrong_uses h
  obtain ⟨⟨c, hc⟩, _⟩ := use_member h (.inl hk)
  unfold usesS at hu
  rw [if_neg (by omega), if_neg (by omega), if_neg (by omega), if_neg (by omega), hc] at hu
  simp only at hu
  rw [if_neg (by omega)] at hu
  split at hu
  · exact hu
  · rename_i hn; exact absurd hu hn
theorem method_signed {l : List En} {x : En} (h : wrongS l x = 0) (hk : x.f0 = 6) : signedS l x.f5 = 0 := by
  have hu := wrong_uses h
  obtain ⟨⟨c, hc⟩, _⟩ := use_member h (.inr hk)
  unfold usesS at hu
  rw [if_neg (by omega), if_neg (by omega), if_neg (by omega), if_neg (by omega), hc] at hu
  simp only at hu
  rw [if_pos hk] at hu
  split at hu
  · exact hu
  · rename_i hn; exact absurd hu hn
theorem class_2 (l : List En) (i : Int) : (classV l i).2 = (rightS l i 3).2 := by
  unfold classV
  rcases right_cases l i 3 with ⟨x, hr, hk, hw, h3⟩ | ⟨e, he, hr⟩ <;> rw [hr]
theorem rField_f (l : List En) (hl : Small l) (i : Int) : Ev (fun k => keystoneref3_Field.f k l i) (fieldV l i) := by
  unfold fieldV
  refine Ev.bind (rheld_f l hl i 5) ?_
  unfold heldS
  rcases right_cases l i 5 with ⟨x, hr, hk, hw, h3⟩ | ⟨e, he, hr⟩ <;> rw [hr]
  · simp only
    rw [if_pos (by omega), ← class_2]
    by_cases h0 : (classV l x.f3).2 = 0
    · rw [if_pos h0]
      have hi := kindS_in hk
      obtain ⟨⟨c, hc⟩, ⟨y, hy⟩, z, hz⟩ := use_member hw (.inl h3)
      have hj := kindS_in hy
      have hz' := kindS_in hz
      have hc' := kindS_in hc
      have hs := small_txt hl hz
      have ht := typed_v (field_typed hw h3)
      rcases right_cases l x.f3 3 with ⟨c2, hr2, hk2, hw2, h32⟩ | ⟨e, he, hr2⟩
      · obtain rfl : c = c2 := by rw [hc] at hk2; exact Option.some.inj hk2
        obtain ⟨q, hq⟩ := use_class hw2 h32
        have hq' := kindS_in hq
        have ec : (classV l x.f3).1 = txtOf l c.f3 := by unfold classV; rw [hr2]
        refine Ev_pos h0 (Ev_pos hi.2.1 (Ev_pos hi.2.2.1 ?_))
        rw [rdE hi.2.1 hi.2.2.2.1]
        refine Ev_pos hz'.2.1 (Ev_pos hz'.2.2.1 (Ev.bind (rtype_f (txtOf l x.f5) (by omega)) (Ev_pos hc'.2.1 (Ev_pos hc'.2.2.1 ?_))))
        rw [rdE hc'.2.1 hc'.2.2.2.1]
        refine Ev_pos hq'.2.1 (Ev_pos hq'.2.2.1 (Ev_pos hj.2.1 (Ev_pos hj.2.2.1 (Ev_const ?_))))
        rw [ec, ← ht]
        rfl
      · rw [class_2, hr2] at h0; exact absurd h0 he
    · rw [if_neg h0]
      exact Ev_neg h0 (Ev.now _)
  · exact Ev_neg he (Ev.now _)
theorem rMethod_f (l : List En) (hl : Small l) (i : Int) : Ev (fun k => keystoneref3_Method.f k l i) (methodV l i) := by
  unfold methodV
  refine Ev.bind (rheld_f l hl i 6) ?_
  unfold heldS
  rcases right_cases l i 6 with ⟨x, hr, hk, hw, h3⟩ | ⟨e, he, hr⟩ <;> rw [hr]
  · simp only
    rw [if_pos (by omega), ← class_2]
    by_cases h0 : (classV l x.f3).2 = 0
    · rw [if_pos h0]
      have hi := kindS_in hk
      obtain ⟨⟨c, hc⟩, ⟨y, hy⟩, z, hz⟩ := use_member hw (.inr h3)
      have hj := kindS_in hy
      have hz' := kindS_in hz
      have hc' := kindS_in hc
      have hs := small_txt hl hz
      have ht := signed_v (method_signed hw h3)
      rcases right_cases l x.f3 3 with ⟨c2, hr2, hk2, hw2, h32⟩ | ⟨e, he, hr2⟩
      · obtain rfl : c = c2 := by rw [hc] at hk2; exact Option.some.inj hk2
        obtain ⟨q, hq⟩ := use_class hw2 h32
        have hq' := kindS_in hq
        have ec : (classV l x.f3).1 = txtOf l c.f3 := by unfold classV; rw [hr2]
        refine Ev_pos h0 (Ev_pos hi.2.1 (Ev_pos hi.2.2.1 ?_))
        rw [rdE hi.2.1 hi.2.2.2.1]
        refine Ev_pos hz'.2.1 (Ev_pos hz'.2.2.1 (Ev.bind (rsig_f (txtOf l x.f5) (by omega)) (Ev_pos hc'.2.1 (Ev_pos hc'.2.2.1 ?_))))
        rw [rdE hc'.2.1 hc'.2.2.2.1]
        refine Ev_pos hq'.2.1 (Ev_pos hq'.2.2.1 (Ev_pos hj.2.1 (Ev_pos hj.2.2.1 (Ev_const ?_))))
        rw [ec, ← ht]
        rfl
      · rw [class_2, hr2] at h0; exact absurd h0 he
    · rw [if_neg h0]
      exact Ev_neg h0 (Ev.now _)
  · exact Ev_neg he (Ev.now _)
end Go.Proofs.YtldejfkplnejjaaDoor.Pure
namespace Go.Proofs.YtldejfkplnejjaaDoor.Pure
open Go.RowKit Go.Proofs.YtldejfkplnejjaaDoor.P Go.Proofs.YtldejfkplnejjaaDoorW.PrintWords
set_option linter.unusedVariables false
def size (op : Int) : Int := if op < 0 ∨ 45 < op then 0 else if op = 3 ∨ op = 4 then 2 else if op = 1 ∨ (19 ≤ op ∧ op ≤ 30) ∨ (36 ≤ op ∧ op ≤ 41) then 3 else 1
theorem jumps_f (a : Int) : instr_jumps.f a = some (decide (19 ≤ a ∧ a ≤ 24)) := by
  unfold instr_jumps.f
  split <;> simp <;> omega
theorem wide_f (a : Int) : instr_wide.f a = some (decide (a = 1 ∨ (19 ≤ a ∧ a ≤ 30) ∨ (36 ≤ a ∧ a ≤ 41))) := by
  unfold instr_wide.f
  rw [jumps_f]
  simp only [Option.bind_some]
  by_cases h : a = 1 ∨ (19 ≤ a ∧ a ≤ 30) ∨ (36 ≤ a ∧ a ≤ 41)
  · rw [decide_eq_true h]
    by_cases h2 : 19 ≤ a ∧ a ≤ 24
    · rw [decide_eq_true h2]; simp only [ite_self]
    · have h3 : a = 1 ∨ a = 25 ∨ a = 26 ∨ a = 27 ∨ a = 28 ∨ a = 29 ∨ a = 30 ∨ a = 36 ∨ a = 37 ∨ a = 38 ∨ a = 39 ∨ a = 40 ∨ a = 41 := by omega
      rcases h3 with rfl | rfl | rfl | rfl | rfl | rfl | rfl | rfl | rfl | rfl | rfl | rfl | rfl <;> rfl
  · rw [decide_eq_false h, decide_eq_false (show ¬ (19 ≤ a ∧ a ≤ 24) by omega)]
    rw [if_neg (by omega), if_neg (by omega), if_neg (by omega), if_neg (by omega), if_neg (by omega), if_neg (by omega), if_neg (by omega), if_neg (by omega), if_neg (by omega), if_neg (by omega), if_neg (by omega), if_neg (by omega), if_neg (by omega)]
theorem size_f (op : Int) : Ev (fun k => instr_Size.f k op) (size op) := by
  refine Ev_at 1 (fun m => ?_)
  simp only [instr_Size.f, instr_Size.j0, wide_f, Option.bind_some]
  unfold size
  by_cases h0 : op < 0 <;> by_cases h1 : 45 < op <;> by_cases h2 : op = 1 ∨ (19 ≤ op ∧ op ≤ 30) ∨ (36 ≤ op ∧ op ≤ 41) <;> by_cases h3 : op = 3 <;> by_cases h4 : op = 4
  all_goals first | (exfalso; omega) | (simp [h0, h1, h2, h3, h4, wrap64]; done)
theorem size_le (op : Int) : 0 ≤ size op ∧ size op ≤ 3 := by
  unfold size
  repeat' split
  all_goals omega
def lim (s : Int) : Int := if s = 1 then 1 else if s = 2 then 256 else 65536
def codeOf (i : S77) : List Int := [i.f1 % 256] ++ (if size i.f1 = 3 then [i.f2 / 256 % 256] else []) ++ (if size i.f1 > 1 then [i.f2 % 256] else [])
def decT : List Int → Except Int (Int × Int × Int)
  | [] => .error 11
  | op :: t => if size op = 0 then .error 17 else if size op = 1 then .ok (op, 0, 1) else
    match t with
    | [] => .error 11
    | b :: u => if size op = 2 then .ok (op, b, 2) else
      match u with
      | [] => .error 11
      | c :: _ => .ok (op, 256 * b + c, 3)
theorem decT_0 {op : Int} (t : List Int) (h : size op = 0) : decT (op :: t) = .error 17 := by simp only [decT]; rw [if_pos h]
theorem decT_1 {op : Int} (t : List Int) (h : size op = 1) : decT (op :: t) = .ok (op, 0, 1) := by simp only [decT]; rw [if_neg (by omega), if_pos h]
theorem decT_n {op : Int} (h0 : size op ≠ 0) (h1 : size op ≠ 1) : decT [op] = .error 11 := by simp only [decT]; rw [if_neg h0, if_neg h1]
theorem decT_2 {op : Int} (b : Int) (u : List Int) (h : size op = 2) : decT (op :: b :: u) = .ok (op, b, 2) := by simp only [decT]; rw [if_neg (by omega), if_neg (by omega), if_pos h]
theorem decT_m {op : Int} (b : Int) (h : size op = 3) : decT [op, b] = .error 11 := by simp only [decT]; rw [if_neg (by omega), if_neg (by omega), if_neg (by omega)]
theorem decT_3 {op : Int} (b c : Int) (v : List Int) (h : size op = 3) : decT (op :: b :: c :: v) = .ok (op, 256 * b + c, 3) := by simp only [decT]; rw [if_neg (by omega), if_neg (by omega), if_neg (by omega)]
def told (at_ : Int) : Except Int (Int × Int × Int) → Int × Int × Int × Int × Int
  | .error e => (0, 0, 0, 0, e)
  | .ok r => (at_, r.1, r.2.1, r.2.2, 0)
def decS (l : List Int) (a : Int) : Int × Int × Int × Int × Int := if a < 0 ∨ (l.length : Int) ≤ a then (0, 0, 0, 0, 11) else told a (decT (l.drop a.toNat))
def Bytes (l : List Int) : Prop := ∀ x ∈ l, 0 ≤ x ∧ x ≤ 255
theorem bytes_of {l : List Int} (h : ∀ x ∈ l, (Lit.int .u8 x).wf = true) : Bytes l := fun x hx => by
  have := h x hx
  simp [Lit.wf, IntKind.min, IntKind.max, IntKind.signed, IntKind.bits] at this
  omega
theorem or_join (n b : Int) (h0 : 0 ≤ n) (h1 : n ≤ 255) (h2 : 0 ≤ b) (h3 : b ≤ 255) : bits .or .i64 (wrap64 (n * 256)) (wrap64 b) = 256 * n + b := by
  rw [w64 (by omega) (by omega), w64 (by omega) (by omega)]
  rw [bits_join .i64 40 (by decide) (fun n h0 h1 => by rw [IntKind.wrap_i64]; omega) 8 (n * 256) b (by omega) (by omega) (by omega) (by omega) (by omega) (by omega)]
  omega
theorem drop_take_at {l : List Int} {j s : Nat} {op : Int} {t : List Int} (h : l.drop j = op :: t) (hs : 1 ≤ s) : (l.take (j + s)).drop (j + 1) = t.take (s - 1) := by
  rw [List.drop_take, show l.drop (j + 1) = t by rw [← List.drop_drop, h]; rfl]
  congr 1
  omega
theorem size_3 {op : Int} (h0 : size op ≠ 0) (h1 : size op ≠ 1) (h2 : size op ≠ 2) : size op = 3 := by have := size_le op; omega
theorem decode_f (l : List Int) (hb : Bytes l) (hl : l.length ≤ 2000000) (a : Int) : Ev (fun k => instr_Decode.f k l a) (decS l a) := by
  unfold instr_Decode.f decS
  have bad : Ev (fun k => instr_Decode.j0 k l a true) ((0, 0, 0, 0, 11) : Int × Int × Int × Int × Int) := by
    refine Ev.step (fun k => by rw [instr_Decode.j0]) ?_
    exact Ev_pos rfl (Ev.now _)
  by_cases h0 : a < 0
  · rw [if_pos (.inl h0)]
    exact Ev_pos h0 bad
  refine Ev_neg h0 ?_
  by_cases h1 : a ≥ (l.length : Int)
  · rw [if_pos (.inr h1), decide_eq_true h1]
    exact bad
  rw [if_neg (by omega), decide_eq_false h1]
  obtain ⟨j, rfl⟩ : ∃ j : Nat, a = j := ⟨a.toNat, by omega⟩
  obtain ⟨op, hop⟩ := at_of (l := l) (j := j) (by omega)
  have hd := drop_at hop
  generalize ht : l.drop (j + 1) = t at hd
  have htl : t.length = l.length - (j + 1) := by rw [← ht, List.length_drop]
  have hr : rd l (j : Int) = op := getD_at rfl hop
  have hopb := hb op (List.mem_of_getElem? hop)
  have htb : ∀ x ∈ t, 0 ≤ x ∧ x ≤ 255 := fun x hx => hb x (List.mem_of_mem_drop (ht ▸ hx))
  rw [Int.toNat_natCast, hd]
  refine Ev.step (fun k => by rw [instr_Decode.j0]) ?_
  simp only [hr]
  rw [w64 (n := op) (by omega) (by omega), w64 (n := (l.length : Int) - j) (by omega) (by omega), w64 (n := (j : Int) + 1) (by omega) (by omega)]
  refine Ev_neg Bool.false_ne_true (Ev_pos (by omega) (Ev_pos (by omega) (Ev.bind (size_f op) ?_)))
  have hs := size_le op
  rw [w64 (n := (j : Int) + size op) (by omega) (by omega)]
  by_cases s0 : size op = 0
  · rw [decT_0 _ s0]; exact Ev_pos s0 (Ev.now _)
  refine Ev_neg s0 ?_
  have e : ((l.take ((j : Int) + size op).toNat).drop ((j : Int) + 1).toNat) = t.take ((size op).toNat - 1) := by
    rw [show ((j : Int) + size op).toNat = j + (size op).toNat by omega, show ((j : Int) + 1).toNat = j + 1 by omega]
    exact drop_take_at hd (by omega)
  rw [e]
  by_cases s1 : size op = 1
  · rw [decT_1 _ s1, s1]
    refine Ev_neg (by omega) (Ev_pos (by omega) (Ev_pos (by omega) (Ev_pos (by omega) ?_)))
    refine Ev.step (fun k => by rw [instr_Decode.l0]) ?_
    exact Ev_neg (by simp) (Ev.now _)
  match t, htl, htb with
  | [], htl, _ => rw [decT_n s0 s1]; exact Ev_pos (by simp at htl; omega) (Ev.now _)
  | b :: u, htl, htb =>
    have hbb := htb b List.mem_cons_self
    simp only [List.length_cons] at htl
    have hz : bits .or .i64 (wrap64 (0 * 256)) (wrap64 b) = b := by rw [or_join 0 b (by omega) (by omega) (by omega) (by omega)]; omega
    by_cases s2 : size op = 2
    · rw [decT_2 _ _ s2]
      simp only [s2]
      refine Ev_neg (by omega) (Ev_pos (by omega) (Ev_pos (by omega) (Ev_pos (by omega) ?_)))
      refine Ev.step (fun k => by rw [instr_Decode.l0]) (Ev_pos (by simp) (Ev_pos (by omega) (Ev_pos (by simp) ?_)))
      refine Ev.step (fun k => by rw [instr_Decode.l0]) (Ev_neg (by simp [wrap64]) ?_)
      refine Ev_const ?_
      show some (_, _, bits .or .i64 (wrap64 (0 * 256)) (wrap64 b), _, _) = _
      rw [hz]; rfl
    · have s3 := size_3 s0 s1 s2
      match u, htl, htb with
      | [], htl, _ => rw [decT_m _ s3]; exact Ev_pos (by simp at htl; omega) (Ev.now _)
      | c :: v, htl, htb =>
        have hcb := htb c (List.mem_cons_of_mem _ List.mem_cons_self)
        simp only [List.length_cons] at htl
        rw [decT_3 _ _ _ s3]
        simp only [s3]
        refine Ev_neg (by omega) (Ev_pos (by omega) (Ev_pos (by omega) (Ev_pos (by omega) ?_)))
        refine Ev.step (fun k => by rw [instr_Decode.l0]) (Ev_pos (by simp) (Ev_pos (by omega) (Ev_pos (by simp) ?_)))
        refine Ev.step (fun k => by rw [instr_Decode.l0]) (Ev_pos (by simp [wrap64]) (Ev_pos (by simp [wrap64]) (Ev_pos (by simp [wrap64]) ?_)))
        refine Ev.step (fun k => by rw [instr_Decode.l0]) (Ev_neg (by simp [wrap64]) ?_)
        refine Ev_const ?_
        rw [show wrap64 (0 + 1) = 1 by decide +kernel]
        show some (_, _, bits .or .i64 (wrap64 (bits .or .i64 (wrap64 (0 * 256)) (wrap64 b) * 256)) (wrap64 c), _, _) = _
        rw [hz, or_join b c (by omega) (by omega) (by omega) (by omega)]; rfl
theorem decT_ok {t : List Int} {r : Int × Int × Int} (h : decT t = .ok r) : r.2.2 = size r.1 ∧ 1 ≤ r.2.2 ∧ r.2.2 ≤ 3 ∧ r.2.2 ≤ t.length := by
  match t, h with
  | op :: t, h =>
    have hs := size_le op
    by_cases s0 : size op = 0
    · rw [decT_0 _ s0] at h; cases h
    by_cases s1 : size op = 1
    · rw [decT_1 _ s1] at h; cases h; simp [s1]; omega
    match t, h with
    | [], h => rw [decT_n s0 s1] at h; cases h
    | b :: u, h =>
      by_cases s2 : size op = 2
      · rw [decT_2 _ _ s2] at h; cases h; simp [s2]; omega
      have s3 := size_3 s0 s1 s2
      match u, h with
      | [], h => rw [decT_m _ s3] at h; cases h
      | c :: v, h => rw [decT_3 _ _ _ s3] at h; cases h; simp [s3]; omega
theorem decT_err {t : List Int} {e : Int} (h : decT t = .error e) : e = 11 ∨ e = 17 := by
  match t, h with
  | [], h => cases h; exact .inl rfl
  | op :: t, h =>
    by_cases s0 : size op = 0
    · rw [decT_0 _ s0] at h; cases h; exact .inr rfl
    by_cases s1 : size op = 1
    · rw [decT_1 _ s1] at h; cases h
    match t, h with
    | [], h => rw [decT_n s0 s1] at h; cases h; exact .inl rfl
    | b :: u, h =>
      by_cases s2 : size op = 2
      · rw [decT_2 _ _ s2] at h; cases h
      have s3 := size_3 s0 s1 s2
      match u, h with
      | [], h => rw [decT_m _ s3] at h; cases h; exact .inl rfl
      | c :: v, h => rw [decT_3 _ _ _ s3] at h; cases h
def parse : Nat → Int → List Int → Except (Int × Int) (List S77)
  | _, _, [] => .ok []
  | 0, _, _ :: _ => .ok []
  | n + 1, a, x :: t => match decT (x :: t) with
    | .error e => .error (a, e)
    | .ok r => (parse n (a + r.2.2) ((x :: t).drop r.2.2.toNat)).map (⟨a, r.1, r.2.1, r.2.2⟩ :: ·)
def allOf (acc : List S77) : Except (Int × Int) (List S77) → List S77 × Int × Int
  | .error e => ([], e.1, e.2)
  | .ok l => (acc ++ l, 0, 0)
theorem allOf_map (acc : List S77) (x : S77) (p : Except (Int × Int) (List S77)) : allOf acc (p.map (x :: ·)) = allOf (acc ++ [x]) p := by
  cases p <;> simp [allOf, Except.map]
theorem all_l (l : List Int) (hb : Bytes l) (hl : l.length ≤ 2000000) : ∀ (n j : Nat) (acc : List S77), l.length - j ≤ n → acc.length ≤ j → j ≤ l.length →
    Ev (fun k => instr_All.l0 k l acc (j : Int)) (allOf acc (parse n j (l.drop j)))
  | n, j, acc, hn, ha, hj => by
    by_cases hlt : j < l.length
    · obtain ⟨op, hop⟩ := at_of hlt
      have hd := drop_at hop
      obtain ⟨n, rfl⟩ : ∃ m, n = m + 1 := ⟨n - 1, by omega⟩
      refine Ev.step (fun k => by rw [instr_All.l0]) (Ev_pos (by omega) (Ev.bind (decode_f l hb hl j) ?_))
      rw [hd]
      unfold decS parse
      rw [if_neg (by omega), Int.toNat_natCast, hd]
      cases hc : decT (op :: l.drop (j + 1)) with
      | error e =>
        simp only [told]
        exact Ev_neg (by have := decT_err hc; omega) (Ev.now _)
      | ok r =>
        obtain ⟨h1, h2, h3, h4⟩ := decT_ok hc
        rw [← hd, List.length_drop] at h4
        simp only [told]
        refine Ev_pos trivial (Ev_pos (by omega) ?_)
        rw [show wrap64 ((j : Int) + r.2.2) = ((j + r.2.2.toNat : Nat) : Int) by rw [w64] <;> omega, allOf_map, ← hd, List.drop_drop, show (j : Int) + r.2.2 = ((j + r.2.2.toNat : Nat) : Int) by omega]
        exact all_l l hb hl n (j + r.2.2.toNat) _ (by omega) (by simp; omega) (by omega)
    · refine Ev.step (fun k => by rw [instr_All.l0]) (Ev_neg (by omega) (Ev_const ?_))
      rw [List.drop_of_length_le (by omega)]
      cases n <;> simp [parse, allOf]
theorem all_f (l : List Int) (hb : Bytes l) (hl : l.length ≤ 2000000) : Ev (fun k => instr_All.f k l) (allOf [] (parse l.length 0 l)) := all_l l hb hl l.length 0 [] (by omega) (by simp) (by omega)
theorem parse_len : ∀ (n : Nat) (a : Int) (t : List Int) (l : List S77), parse n a t = .ok l → l.length ≤ t.length
  | n, _, [], l, h => by cases n <;> (simp only [parse] at h; cases h; simp)
  | 0, _, _ :: _, l, h => by simp only [parse] at h; cases h; simp
  | n + 1, a, x :: t, l, h => by
    unfold parse at h
    cases hc : decT (x :: t) with
    | error e => rw [hc] at h; cases h
    | ok r =>
      rw [hc] at h
      obtain ⟨_, h2, _, h4⟩ := decT_ok hc
      cases hp : parse n (a + r.2.2) ((x :: t).drop r.2.2.toNat) with
      | error e => simp only [hp] at h; cases h
      | ok l' =>
        simp only [hp] at h
        cases h
        have := parse_len n _ _ _ hp
        rw [List.length_drop] at this
        simp only [List.length_cons] at this ⊢
        omega
theorem parse_nil (n : Nat) (a : Int) : parse n a [] = .ok [] := by cases n <;> rfl
theorem parse_err {n : Nat} {a : Int} {t : List Int} {e : Int} (h0 : t ≠ []) (h : decT t = .error e) : parse (n + 1) a t = .error (a, e) := by
  match t, h0 with
  | x :: t, _ => rw [parse, h]
theorem parse_ok {n : Nat} {a : Int} {t : List Int} {r : Int × Int × Int} (h : decT t = .ok r) : parse (n + 1) a t = (parse n (a + r.2.2) (t.drop r.2.2.toNat)).map (⟨a, r.1, r.2.1, r.2.2⟩ :: ·) := by
  match t, h with
  | x :: t, h => rw [parse, h]
theorem parse_in : ∀ (n : Nat) (a : Int) (t : List Int), t.length ≤ n →
    (∀ l, parse n a t = .ok l → ∀ x ∈ l, a ≤ x.f0 ∧ x.f0 < a + t.length) ∧ (∀ k e, parse n a t = .error (k, e) → a ≤ k ∧ k < a + t.length ∧ (e = 11 ∨ e = 17))
  | n, a, [], _ => by rw [parse_nil]; exact ⟨fun l h => (by cases h; simp), fun k e h => (by cases h)⟩
  | 0, _, _ :: _, h => absurd h (by simp)
  | n + 1, a, x :: t, h => by
    cases hc : decT (x :: t) with
    | error e =>
      rw [parse_err (by simp) hc]
      exact ⟨fun l h => (by cases h), fun k e h => (by cases h; exact ⟨by omega, by simp only [List.length_cons]; omega, decT_err hc⟩)⟩
    | ok r =>
      obtain ⟨_, h2, _, h4⟩ := decT_ok hc
      rw [parse_ok hc]
      simp only [List.length_cons] at h h4 ⊢
      have hd : ((x :: t).drop r.2.2.toNat).length = t.length + 1 - r.2.2.toNat := by simp
      have ih := parse_in n (a + r.2.2) ((x :: t).drop r.2.2.toNat) (by omega)
      rw [hd] at ih
      cases hp : parse n (a + r.2.2) ((x :: t).drop r.2.2.toNat) with
      | error e' =>
        rw [hp] at ih
        exact ⟨fun l h => (by cases h), fun k e h => (by cases h; have := ih.2 k e rfl; exact ⟨by omega, by omega, this.2.2⟩)⟩
      | ok l =>
        rw [hp] at ih
        refine ⟨fun l' h => ?_, fun k e h => (by cases h)⟩
        cases h
        intro y hy
        rcases List.mem_cons.1 hy with rfl | hy
        · simp only; omega
        · have := ih.1 l rfl y hy; omega
def Good (i : S77) : Prop := size i.f1 ≠ 0 ∧ 0 ≤ i.f2 ∧ i.f2 < lim (size i.f1)
def flat : List S77 → List Int
  | [] => []
  | i :: l => codeOf i ++ flat l
theorem op_in {op : Int} (h : size op ≠ 0) : 0 ≤ op ∧ op ≤ 45 := by
  by_cases h1 : op < 0 ∨ 45 < op
  · exact absurd (by unfold size; rw [if_pos h1]) h
  · omega
theorem decT_back {t : List Int} {r : Int × Int × Int} (hb : Bytes t) (h : decT t = .ok r) (a : Int) : Good ⟨a, r.1, r.2.1, r.2.2⟩ ∧ codeOf ⟨a, r.1, r.2.1, r.2.2⟩ = t.take r.2.2.toNat := by
  match t, h with
  | op :: t, h =>
    by_cases s0 : size op = 0
    · rw [decT_0 _ s0] at h; cases h
    have ho := op_in s0
    by_cases s1 : size op = 1
    · rw [decT_1 _ s1] at h; cases h
      refine ⟨⟨s0, by simp, by simp [s1, lim]⟩, ?_⟩
      unfold codeOf
      simp only [s1]
      rw [if_neg (by omega), if_neg (by omega)]
      simp; omega
    match t, h with
    | [], h => rw [decT_n s0 s1] at h; cases h
    | b :: u, h =>
      have hbb := hb b (by simp)
      by_cases s2 : size op = 2
      · rw [decT_2 _ _ s2] at h; cases h
        refine ⟨⟨s0, hbb.1, by simp [s2, lim]; omega⟩, ?_⟩
        unfold codeOf
        simp only [s2]
        rw [if_neg (by omega), if_pos (by omega)]
        simp; omega
      have s3 := size_3 s0 s1 s2
      match u, h with
      | [], h => rw [decT_m _ s3] at h; cases h
      | c :: v, h =>
        have hcb := hb c (by simp)
        rw [decT_3 _ _ _ s3] at h; cases h
        refine ⟨⟨s0, by simp only; omega, by simp only [s3]; unfold lim; rw [if_neg (by omega), if_neg (by omega)]; omega⟩, ?_⟩
        unfold codeOf
        simp only [s3]
        simp; omega
theorem parse_back : ∀ (n : Nat) (a : Int) (t : List Int) (l : List S77), Bytes t → t.length ≤ n → parse n a t = .ok l → (∀ i ∈ l, Good i) ∧ flat l = t
  | n, a, [], l, _, _, h => by rw [parse_nil] at h; cases h; simp [flat]
  | 0, _, _ :: _, _, _, h, _ => absurd h (by simp)
  | n + 1, a, x :: t, l, hb, hn, h => by
    cases hc : decT (x :: t) with
    | error e => rw [parse_err (by simp) hc] at h; cases h
    | ok r =>
      obtain ⟨_, h2, _, h4⟩ := decT_ok hc
      rw [parse_ok hc] at h
      cases hp : parse n (a + r.2.2) ((x :: t).drop r.2.2.toNat) with
      | error e => rw [hp] at h; cases h
      | ok l' =>
        rw [hp] at h; cases h
        obtain ⟨hg, hf⟩ := parse_back n _ _ l' (fun x hx => hb x (List.mem_of_mem_drop hx)) (by simp only [List.length_drop, List.length_cons] at *; omega) hp
        obtain ⟨g, c⟩ := decT_back hb hc a
        refine ⟨fun y hy => ?_, ?_⟩
        · rcases List.mem_cons.1 hy with rfl | hy
          · exact g
          · exact hg y hy
        · rw [flat, c, hf, List.take_append_drop]
end Go.Proofs.YtldejfkplnejjaaDoor.Pure
namespace Go.Proofs.YtldejfkplnejjaaDoor.Pure
open Go.RowKit Go.Proofs.YtldejfkplnejjaaDoor.P Go.Proofs.YtldejfkplnejjaaDoorW.PrintWords
set_option linter.unusedVariables false
abbrev In := S77
def Told (l : List En) (G : In → Int) : Prop := (∀ i : In, 38 ≤ i.f1 ∧ i.f1 ≤ 41 → Ev (fun k => instr_calls.f k i.f0 i.f1 i.f2 i.f3 l) (G i)) ∧ ∀ i : In, ¬ (38 ≤ i.f1 ∧ i.f1 ≤ 41) → Ev (fun k => instr_asks.f k i.f0 i.f1 i.f2 i.f3 l) (G i)
def ckS (G : In → Int) (loc : Int) (bg : List Bool) (i : In) : Int :=
  if i.f1 = 3 ∨ i.f1 = 4 then (if i.f2 ≥ loc then 43 else 0)
  else if 19 ≤ i.f1 ∧ i.f1 ≤ 24 then (if i.f2 ≥ (bg.length : Int) ∨ bg.getD i.f2.toNat false = false then 18 else 0) else G i
def badS (ck : In → Int) : List In → Int × Int
  | [] => (0, 0)
  | i :: r => if ck i = 0 then badS ck r else (i.f0, ck i)
def markS : List Bool → List In → List Bool
  | bg, [] => bg
  | bg, i :: r => markS (bg.set i.f0.toNat true) r
theorem markS_len : ∀ (l : List In) (bg : List Bool), (markS bg l).length = bg.length
  | [], bg => rfl
  | i :: r, bg => by rw [markS, markS_len r, List.length_set]
theorem rdI {l : List In} {j : Nat} {x : In} (h : l[j]? = some x) : rd_T77 l (j : Int) = x := getD_at rfl h
theorem check_l1 (l : List En) (G : In → Int) (hG : Told l G) (loc : Int) (bg : List Bool) (is : List In) (hi0 : ∀ i ∈ is, 0 ≤ i.f2) (hlen : is.length ≤ 2000000) : ∀ (c j : Nat), j + c = is.length →
    Ev (fun k => instr_Check.l1 k l loc 0 bg is (is.length : Int) (j : Int)) (badS (ckS G loc bg) (is.drop j))
  | 0, j, hj => by
    rw [List.drop_of_length_le (by omega)]
    refine Ev.step (fun k => by rw [instr_Check.l1]) ?_
    exact Ev_neg (by omega) (Ev.now _)
  | c + 1, j, hj => by
    obtain ⟨i, hi⟩ := at_of (l := is) (j := j) (by omega)
    have h2 := hi0 i (List.mem_of_getElem? hi)
    have next := check_l1 l G hG loc bg is hi0 hlen c (j + 1) (by omega)
    have hw : wrap64 ((j : Int) + 1) = ((j + 1 : Nat) : Int) := by rw [w64] <;> omega
    rw [drop_at hi, badS]
    have j3 : ∀ b : Bool, ckS G loc bg i = (if b = true then 18 else 0) → Ev (fun k => instr_Check.j3 k l loc 0 bg is (is.length : Int) (j : Int) b i.f0 i.f1 i.f2 i.f3) (if ckS G loc bg i = 0 then badS (ckS G loc bg) (is.drop (j + 1)) else (i.f0, ckS G loc bg i)) := fun b hb => by
      refine Ev.step (fun k => by rw [instr_Check.j3, hw]) ?_
      rw [hb]
      cases b with
      | true => exact Ev_pos rfl (Ev_neg (by omega) (Ev.now _))
      | false => exact Ev_neg Bool.false_ne_true (Ev_pos rfl next)
    have j4 : ∀ b : Bool, ckS G loc bg i = G i → b = decide (38 ≤ i.f1 ∧ i.f1 ≤ 41) → Ev (fun k => instr_Check.j4 k l loc bg is (is.length : Int) (j : Int) b i.f0 i.f1 i.f2 i.f3) (if ckS G loc bg i = 0 then badS (ckS G loc bg) (is.drop (j + 1)) else (i.f0, ckS G loc bg i)) := fun b hb hd => by
      refine Ev.step (fun k => by rw [instr_Check.j4, hw]) ?_
      rw [hb]
      by_cases h38 : 38 ≤ i.f1 ∧ i.f1 ≤ 41
      · rw [hd, decide_eq_true h38]
        refine Ev_pos rfl (Ev.bind (hG.1 i h38) ?_)
        by_cases h0 : G i = 0
        · rw [if_pos h0]; refine Ev_pos h0 ?_; rw [h0]; exact next
        · rw [if_neg h0]; exact Ev_neg h0 (Ev.now _)
      · rw [hd, decide_eq_false h38]
        refine Ev_neg Bool.false_ne_true (Ev.bind (hG.2 i h38) ?_)
        by_cases h0 : G i = 0
        · rw [if_pos h0]; refine Ev_pos h0 ?_; rw [h0]; exact next
        · rw [if_neg h0]; exact Ev_neg h0 (Ev.now _)
    have j2 : ∀ b : Bool, b = decide (i.f1 = 3 ∨ i.f1 = 4) → Ev (fun k => instr_Check.j2 k l loc 0 bg is (is.length : Int) (j : Int) b i.f0 i.f1 i.f2 i.f3) (if ckS G loc bg i = 0 then badS (ckS G loc bg) (is.drop (j + 1)) else (i.f0, ckS G loc bg i)) := fun b hb => by
      refine Ev.step (fun k => by rw [instr_Check.j2, hw]) ?_
      by_cases h34 : i.f1 = 3 ∨ i.f1 = 4
      · rw [hb, decide_eq_true h34]
        refine Ev_pos rfl ?_
        by_cases hn : i.f2 ≥ loc
        · have hck : ckS G loc bg i = 43 := by unfold ckS; rw [if_pos h34, if_pos hn]
          rw [hck]
          exact Ev_pos hn (Ev_neg (by omega) (Ev.now _))
        · have hck : ckS G loc bg i = 0 := by unfold ckS; rw [if_pos h34, if_neg hn]
          rw [hck]
          exact Ev_neg hn (Ev_pos rfl next)
      · rw [hb, decide_eq_false h34]
        refine Ev_neg Bool.false_ne_true (Ev_bindc (jumps_f _) ?_)
        by_cases hjm : 19 ≤ i.f1 ∧ i.f1 ≤ 24
        · rw [decide_eq_true hjm]
          refine Ev_pos rfl ?_
          by_cases hge : i.f2 ≥ (bg.length : Int)
          · exact Ev_pos hge (j3 true (by unfold ckS; rw [if_neg h34, if_pos hjm, if_pos (.inl hge)]; rfl))
          · refine Ev_neg hge (Ev_pos h2 (Ev_pos (by omega) (j3 _ ?_)))
            unfold ckS
            rw [if_neg h34, if_pos hjm]
            have e : rdOf false bg i.f2 = bg.getD i.f2.toNat false := rfl
            rw [e]
            cases hbg : bg.getD i.f2.toNat false with
            | true => rw [if_neg (by rintro (h | h); exact hge h; cases h)]; rfl
            | false => rw [if_pos (.inr rfl)]; rfl
        · rw [decide_eq_false hjm]
          have hck : ckS G loc bg i = G i := by unfold ckS; rw [if_neg h34, if_neg hjm]
          refine Ev_neg Bool.false_ne_true ?_
          by_cases h38 : i.f1 ≥ 38
          · exact Ev_pos h38 (j4 _ hck (by by_cases h : i.f1 ≤ 41 <;> simp [h, h38]))
          · exact Ev_neg h38 (j4 _ hck (by rw [decide_eq_false (fun h => h38 h.1)]))
    refine Ev.step (fun k => by rw [instr_Check.l1, rdI hi]) (Ev_pos (by omega) (Ev_pos (by omega) (Ev_pos (by omega) ?_)))
    by_cases h3 : i.f1 = 3
    · exact Ev_pos h3 (j2 true (by simp [h3]))
    · exact Ev_neg h3 (j2 _ (by rw [Bool.eq_iff_iff]; simp [h3]))
theorem check_l0 (l : List En) (G : In → Int) (hG : Told l G) (loc : Int) (is : List In) (hi0 : ∀ i ∈ is, 0 ≤ i.f2) (hlen : is.length ≤ 2000000) : ∀ (c j : Nat) (bg : List Bool), j + c = is.length → (∀ i ∈ is, 0 ≤ i.f0 ∧ i.f0 < bg.length) →
    Ev (fun k => instr_Check.l0 k l loc is 0 bg is (is.length : Int) (j : Int)) (badS (ckS G loc (markS bg (is.drop j))) is)
  | 0, j, bg, hj, hb => by
    have h := check_l1 l G hG loc bg is hi0 hlen is.length 0 (Nat.zero_add _)
    rw [List.drop_zero] at h
    rw [List.drop_of_length_le (by omega), markS]
    refine Ev.step (fun k => by rw [instr_Check.l0]) ?_
    exact Ev_neg (by omega) h
  | c + 1, j, bg, hj, hb => by
    obtain ⟨i, hi⟩ := at_of (l := is) (j := j) (by omega)
    have h2 := hb i (List.mem_of_getElem? hi)
    rw [drop_at hi, markS]
    have hw : wrap64 ((j : Int) + 1) = ((j + 1 : Nat) : Int) := by rw [w64] <;> omega
    refine Ev.step (fun k => by rw [instr_Check.l0, rdI hi, hw]) (Ev_pos (by omega) (Ev_pos (by omega) (Ev_pos (by omega) (Ev_pos h2.1 (Ev_pos h2.2 ?_)))))
    exact check_l0 l G hG loc is hi0 hlen c (j + 1) _ (by omega) (fun x hx => by rw [List.length_set]; exact hb x hx)
def checkS (G : In → Int) (code : List Int) (loc : Int) : Int × Int :=
  if code.length = 0 then (0, 46) else if 1024 < code.length then (0, 5) else match parse code.length 0 code with
    | .error e => (e.1, e.2)
    | .ok is => badS (ckS G loc (markS (List.replicate code.length false) is)) is
theorem check_f (code : List Int) (hb : Bytes code) (l : List En) (G : In → Int) (hG : Told l G) (loc : Int) : Ev (fun k => instr_Check.f k code l loc) (checkS G code loc) := by
  unfold instr_Check.f checkS
  by_cases h0 : code.length = 0
  · rw [if_pos h0]; exact Ev_pos (by omega) (Ev.now _)
  rw [if_neg h0]
  refine Ev_neg (by omega) ?_
  by_cases h1 : 1024 < code.length
  · rw [if_pos h1]; exact Ev_pos (by omega) (Ev.now _)
  rw [if_neg h1]
  refine Ev_neg (by omega) (Ev.bind (all_f code hb (by omega)) ?_)
  have hin := parse_in code.length 0 code (Nat.le_refl _)
  cases hp : parse code.length 0 code with
  | error e =>
    obtain ⟨p, e⟩ := e
    have := (hin.2 p e hp).2.2
    exact Ev_neg (show ¬ (e = 0) by omega) (Ev.now _)
  | ok is =>
    have hln := parse_len _ _ _ _ hp
    obtain ⟨hgood, _⟩ := parse_back code.length 0 code is hb (Nat.le_refl _) hp
    refine Ev_pos rfl (Ev_pos (by omega) (Ev_pos (by simp only [Int.toNat_natCast]; omega) ?_))
    have h := check_l0 l G hG loc is (fun i hi => (hgood i hi).2.1) (by omega) is.length 0 (List.replicate code.length false) (Nat.zero_add _) (fun i hi => by
      have := hin.1 is hp i hi
      rw [List.length_replicate]
      omega)
    rw [List.drop_zero] at h
    simp only [allOf, Int.toNat_natCast, List.nil_append]
    exact h
end Go.Proofs.YtldejfkplnejjaaDoor.Pure
namespace Go.Proofs.YtldejfkplnejjaaDoor.Pure
open Go.RowKit Go.Proofs.YtldejfkplnejjaaDoor.P Go.Proofs.YtldejfkplnejjaaDoorW.PrintWords
set_option linter.unusedVariables false
theorem set_at (bg : List Bool) (q p : Nat) (h : q < bg.length) : (bg.set q true).getD p false = true ↔ bg.getD p false = true ∨ q = p := by
  rw [List.getD_eq_getElem?_getD, List.getD_eq_getElem?_getD, List.getElem?_set]
  by_cases hq : q = p
  · rw [if_pos hq, if_pos (by omega)]; simp [hq]
  · rw [if_neg hq]; simp [hq]
theorem mark_at : ∀ (is : List In) (bg : List Bool) (p : Nat), (∀ i ∈ is, 0 ≤ i.f0 ∧ i.f0 < bg.length) → ((markS bg is).getD p false = true ↔ bg.getD p false = true ∨ ∃ i ∈ is, i.f0 = p)
  | [], bg, p, _ => by simp [markS]
  | i :: r, bg, p, h => by
    have hi := h i (List.mem_cons_self ..)
    rw [markS, mark_at r _ p (fun x hx => by rw [List.length_set]; exact h x (List.mem_cons_of_mem _ hx)), set_at _ _ _ (by omega)]
    constructor
    · rintro ((h1 | h1) | ⟨y, hy, h1⟩)
      · exact .inl h1
      · exact .inr ⟨i, List.mem_cons_self .., by omega⟩
      · exact .inr ⟨y, List.mem_cons_of_mem _ hy, h1⟩
    · rintro (h1 | ⟨y, hy, h1⟩)
      · exact .inl (.inl h1)
      · rcases List.mem_cons.1 hy with rfl | hy
        · exact .inl (.inr (by omega))
        · exact .inr ⟨y, hy, h1⟩
theorem rep_at (n p : Nat) : (List.replicate n false).getD p false = false := by
  rw [List.getD_eq_getElem?_getD, List.getElem?_replicate]
  split <;> rfl
end Go.Proofs.YtldejfkplnejjaaDoor.Pure
namespace Go.Proofs.YtldejfkplnejjaaDoor.Pure
open Go.RowKit Go.Proofs.YtldejfkplnejjaaDoor.P Go.Proofs.YtldejfkplnejjaaDoorW.PrintWords
set_option linter.unusedVariables false
theorem rjumps_f (a : Int) : keystoneref4_Jumps.f a = some (decide (19 ≤ a ∧ a ≤ 24)) := by
  unfold keystoneref4_Jumps.f
  split <;> simp <;> omega
theorem rsize_j1 (m : Nat) (op : Int) (b : Bool) : keystoneref4_Size.j1 (m + 1) op b = some (if b = true then 2 else if op = 1 ∨ (19 ≤ op ∧ op ≤ 30) ∨ (36 ≤ op ∧ op ≤ 41) then 3 else 1) := by
  rw [keystoneref4_Size.j1, rjumps_f]
  simp only [Option.bind_some]
  cases b with
  | true => rw [if_pos rfl, if_pos rfl]
  | false =>
    rw [if_neg Bool.false_ne_true, if_neg Bool.false_ne_true]
    by_cases h1 : op = 1
    · rw [if_pos h1, if_pos (.inl h1)]
    rw [if_neg h1]
    by_cases h2 : 19 ≤ op ∧ op ≤ 24
    · rw [decide_eq_true h2, if_pos rfl, if_pos (by omega)]
    rw [decide_eq_false h2, if_neg Bool.false_ne_true]
    by_cases h3 : op ≥ 25
    · rw [if_pos h3]
      by_cases h4 : op ≤ 30
      · rw [if_pos h4, if_pos (by omega)]
      rw [if_neg h4]
      by_cases h5 : op ≥ 36
      · rw [if_pos h5]
        by_cases h6 : op ≤ 41
        · rw [if_pos h6, if_pos (by omega)]
        · rw [if_neg h6, if_neg (by omega)]
      · rw [if_neg h5, if_neg (by omega)]
    · rw [if_neg h3, if_neg (by omega), if_neg (by omega)]
theorem rsize_f (op : Int) : Ev (fun k => keystoneref4_Size.f k op) (size op) := by
  refine Ev_at 2 (fun m => ?_)
  unfold keystoneref4_Size.f size
  have j0 : ∀ b : Bool, keystoneref4_Size.j0 (m + 2) op b = some (if b = true then 0 else if op = 3 ∨ op = 4 then 2 else if op = 1 ∨ (19 ≤ op ∧ op ≤ 30) ∨ (36 ≤ op ∧ op ≤ 41) then 3 else 1) := fun b => by
    rw [keystoneref4_Size.j0, rsize_j1, rsize_j1]
    cases b with
    | true => rw [if_pos rfl, if_pos rfl]
    | false =>
      rw [if_neg Bool.false_ne_true, if_neg Bool.false_ne_true, if_pos rfl]
      by_cases h3 : op = 3
      · rw [if_pos h3, if_pos (.inl h3)]
      rw [if_neg h3]
      by_cases h4 : op = 4
      · rw [show (op == 4) = true by simp [h4], if_pos rfl, if_pos (.inr h4)]
      · rw [show (op == 4) = false by simp [h4], if_neg Bool.false_ne_true, if_neg (show ¬ (op = 3 ∨ op = 4) by omega)]
  by_cases h0 : op < 0
  · rw [if_pos h0, j0, if_pos rfl, if_pos (.inl h0)]
  rw [if_neg h0, j0]
  by_cases h1 : op > 45
  · rw [decide_eq_true h1, if_pos rfl, if_pos (show op < 0 ∨ 45 < op from .inr h1)]
  · rw [decide_eq_false h1, if_neg Bool.false_ne_true, if_neg (show ¬ (op < 0 ∨ 45 < op) by omega)]
theorem rdecode_f (l : List Int) (hb : Bytes l) (hl : l.length ≤ 2000000) (a : Int) : Ev (fun k => keystoneref4_Decode.f k l a) (decS l a) := by
  unfold keystoneref4_Decode.f decS
  have bad : Ev (fun k => keystoneref4_Decode.j0 k l a true) ((0, 0, 0, 0, 11) : Int × Int × Int × Int × Int) := by
    refine Ev.step (fun k => by rw [keystoneref4_Decode.j0]) ?_
    exact Ev_pos rfl (Ev.now _)
  by_cases h0 : a < 0
  · rw [if_pos (.inl h0)]
    exact Ev_pos h0 bad
  refine Ev_neg h0 ?_
  by_cases h1 : a ≥ (l.length : Int)
  · rw [if_pos (.inr h1), decide_eq_true h1]
    exact bad
  rw [if_neg (by omega), decide_eq_false h1]
  obtain ⟨j, rfl⟩ : ∃ j : Nat, a = j := ⟨a.toNat, by omega⟩
  obtain ⟨op, hop⟩ := at_of (l := l) (j := j) (by omega)
  have hd := drop_at hop
  generalize ht : l.drop (j + 1) = t at hd
  have htl : t.length = l.length - (j + 1) := by rw [← ht, List.length_drop]
  have hr : rd l (j : Int) = op := getD_at rfl hop
  have hopb := hb op (List.mem_of_getElem? hop)
  have htb : ∀ x ∈ t, 0 ≤ x ∧ x ≤ 255 := fun x hx => hb x (List.mem_of_mem_drop (ht ▸ hx))
  rw [Int.toNat_natCast, hd]
  refine Ev.step (fun k => by rw [keystoneref4_Decode.j0]) ?_
  simp only [hr]
  rw [w64 (n := op) (by omega) (by omega), w64 (n := (l.length : Int) - j) (by omega) (by omega)]
  refine Ev_neg Bool.false_ne_true (Ev_pos (by omega) (Ev_pos (by omega) (Ev.bind (rsize_f op) ?_)))
  have hs := size_le op
  have h1j : wrap64 ((j : Int) + 1) = ((j + 1 : Nat) : Int) := by rw [w64] <;> omega
  have h2j : wrap64 ((j : Int) + 2) = ((j + 2 : Nat) : Int) := by rw [w64] <;> omega
  have w11 : wrap64 (1 + 1) = 2 := by decide +kernel
  have w21 : wrap64 (2 + 1) = 3 := by decide +kernel
  by_cases s0 : size op = 0
  · rw [decT_0 _ s0]; exact Ev_pos s0 (Ev.now _)
  refine Ev_neg s0 ?_
  by_cases s1 : size op = 1
  · rw [decT_1 _ s1, s1]
    refine Ev_neg (by omega) ?_
    refine Ev.step (fun k => by rw [keystoneref4_Decode.l0]) ?_
    exact Ev_neg (by simp) (Ev.now _)
  match t, ht, htl, htb with
  | [], ht, htl, _ => rw [decT_n s0 s1]; exact Ev_pos (by simp at htl; omega) (Ev.now _)
  | b :: u, ht, htl, htb =>
    have hbb := htb b List.mem_cons_self
    simp only [List.length_cons] at htl
    have hrb : rd l ((j + 1 : Nat) : Int) = b := getD_at rfl (by rw [← List.head?_drop, ht]; rfl)
    have hz : wrap64 (wrap64 (256 * 0) + wrap64 b) = b := by rw [w64 (n := b) (by omega) (by omega)]; unfold wrap64; omega
    by_cases s2 : size op = 2
    · rw [decT_2 _ _ s2]
      simp only [s2]
      refine Ev_neg (by omega) ?_
      refine Ev.step (fun k => by rw [keystoneref4_Decode.l0, h1j, hrb, hz, w11]) (Ev_pos (by omega) (Ev_pos (by omega) (Ev_pos (by omega) ?_)))
      refine Ev.step (fun k => by rw [keystoneref4_Decode.l0]) (Ev_neg (by omega) ?_)
      exact Ev_const rfl
    · have s3 := size_3 s0 s1 s2
      match u, ht, htl, htb with
      | [], ht, htl, _ => rw [decT_m _ s3]; exact Ev_pos (by simp at htl; omega) (Ev.now _)
      | c :: v, ht, htl, htb =>
        have hcb := htb c (List.mem_cons_of_mem _ List.mem_cons_self)
        simp only [List.length_cons] at htl
        rw [decT_3 _ _ _ s3]
        simp only [s3]
        have hrc : rd l ((j + 2 : Nat) : Int) = c := getD_at rfl (by rw [← List.head?_drop, show l.drop (j + 2) = c :: v by rw [show j + 2 = (j + 1) + 1 by omega, ← List.drop_drop, ht]; rfl]; rfl)
        have hy : wrap64 (wrap64 (256 * b) + wrap64 c) = 256 * b + c := by rw [w64 (n := c) (by omega) (by omega), w64 (n := 256 * b) (by omega) (by omega), w64 (by omega) (by omega)]
        refine Ev_neg (by omega) ?_
        refine Ev.step (fun k => by rw [keystoneref4_Decode.l0, h1j, hrb, hz, w11]) (Ev_pos (by omega) (Ev_pos (by omega) (Ev_pos (by omega) ?_)))
        refine Ev.step (fun k => by rw [keystoneref4_Decode.l0, h2j, hrc, hy, w21]) (Ev_pos (by omega) (Ev_pos (by omega) (Ev_pos (by omega) ?_)))
        refine Ev.step (fun k => by rw [keystoneref4_Decode.l0]) (Ev_neg (by omega) ?_)
        exact Ev_const rfl
theorem rall_l (l : List Int) (hb : Bytes l) (hl : l.length ≤ 2000000) : ∀ (n j : Nat) (acc : List S77), l.length - j ≤ n → acc.length ≤ j → j ≤ l.length →
    Ev (fun k => keystoneref4_All.l0 k l acc (j : Int)) (allOf acc (parse n j (l.drop j)))
  | n, j, acc, hn, ha, hj => by
    by_cases hlt : j < l.length
    · obtain ⟨op, hop⟩ := at_of hlt
      have hd := drop_at hop
      obtain ⟨n, rfl⟩ : ∃ m, n = m + 1 := ⟨n - 1, by omega⟩
      refine Ev.step (fun k => by rw [keystoneref4_All.l0]) (Ev_pos (by omega) (Ev.bind (rdecode_f l hb hl j) ?_))
      rw [hd]
      unfold decS parse
      rw [if_neg (by omega), Int.toNat_natCast, hd]
      cases hc : decT (op :: l.drop (j + 1)) with
      | error e =>
        simp only [told]
        exact Ev_neg (by have := decT_err hc; omega) (Ev.now _)
      | ok r =>
        obtain ⟨h1, h2, h3, h4⟩ := decT_ok hc
        rw [← hd, List.length_drop] at h4
        simp only [told]
        refine Ev_pos trivial (Ev_pos (by omega) ?_)
        rw [show wrap64 ((j : Int) + r.2.2) = ((j + r.2.2.toNat : Nat) : Int) by rw [w64] <;> omega, allOf_map, ← hd, List.drop_drop, show (j : Int) + r.2.2 = ((j + r.2.2.toNat : Nat) : Int) by omega]
        exact rall_l l hb hl n (j + r.2.2.toNat) _ (by omega) (by simp; omega) (by omega)
    · refine Ev.step (fun k => by rw [keystoneref4_All.l0]) (Ev_neg (by omega) (Ev_const ?_))
      rw [List.drop_of_length_le (by omega)]
      cases n <;> simp [parse, allOf]
theorem rall_f (l : List Int) (hb : Bytes l) (hl : l.length ≤ 2000000) : Ev (fun k => keystoneref4_All.f k l) (allOf [] (parse l.length 0 l)) := rall_l l hb hl l.length 0 [] (by omega) (by simp) (by omega)
end Go.Proofs.YtldejfkplnejjaaDoor.Pure
namespace Go.Proofs.YtldejfkplnejjaaDoor.Pure
open Go.RowKit Go.Proofs.YtldejfkplnejjaaDoor.P Go.Proofs.YtldejfkplnejjaaDoorW.PrintWords
set_option linter.unusedVariables false
theorem Ev_both {α : Type} {c : Prop} [Decidable c] {f g : Nat → Option α} {r s : α} (h : c → Ev f r) (h' : ¬ c → Ev g s) : Ev (fun k => if c then f k else g k) (if c then r else s) := by
  by_cases hc : c
  · rw [if_pos hc]; exact Ev_pos hc (h hc)
  · rw [if_neg hc]; exact Ev_neg hc (h' hc)
def numS (d : Int) (s : ByteArray) : Bool := d == 0 && (s.toList == ([] : List UInt8))
theorem rnum_f (d : Int) (s : ByteArray) : keystoneref2_Number.f d s = some (numS d s) := by
  unfold keystoneref2_Number.f numS
  by_cases h : d = 0
  · rw [if_pos h]; simp [h]
  · rw [if_neg h]; simp [h]
def ntv (l : List En) (a : Int) : Int := if (ptypeV l a).2.2 = 0 then (if numS (ptypeV l a).1 (ptypeV l a).2.1 = true then 15 else 0) else (ptypeV l a).2.2
def arv (l : List En) (a : Int) : Int := if (ptypeV l a).2.2 = 0 then (if (ptypeV l a).1 = 8 then 15 else 0) else (ptypeV l a).2.2
def calv (l : List En) (o a : Int) : Int := if (methodV l a).2.2.2.2.2.2 = 0 then (if (((methodV l a).2.1.toList == ([60, 105, 110, 105, 116, 62] : List UInt8)) != (o == 41)) = true then 14 else if o = 41 then (if (methodV l a).2.2.2.1 = true then 0 else 15) else 0) else (methodV l a).2.2.2.2.2.2
def entG (l : List En) (i : In) : Int := if i.f1 = 1 then (numberV l i.f2).2 else if i.f1 = 25 then (classV l i.f2).2 else if 26 ≤ i.f1 ∧ i.f1 ≤ 29 then (fieldV l i.f2).2.2.2.2 else if i.f1 = 30 then arv l i.f2 else if i.f1 = 36 ∨ i.f1 = 37 then ntv l i.f2 else if 38 ≤ i.f1 ∧ i.f1 ≤ 41 then calv l i.f1 i.f2 else 0
theorem calls_f (l : List En) (hl : Small l) (a b c d : Int) : Ev (fun k => instr_calls.f k a b c d l) (calv l b c) := by
  unfold instr_calls.f calv
  exact Ev.bind (method_f l hl c) (Ev_both (fun _ => Ev_both (fun _ => Ev.now _) (fun _ => Ev_both (fun _ => Ev_both (fun _ => Ev.now _) (fun _ => Ev.now _)) (fun _ => Ev.now _))) (fun _ => Ev.now _))
theorem told_v (l : List En) (hl : Small l) : Told l (entG l) := by
  refine ⟨fun i h => ?_, fun i h => ?_⟩
  · have e : entG l i = calv l i.f1 i.f2 := by
      unfold entG
      rw [if_neg (by omega), if_neg (by omega), if_neg (by omega), if_neg (by omega), if_neg (by omega), if_pos h]
    rw [e]
    exact calls_f l hl _ _ _ _
  · have hn : Ev (fun k => (pool_Type.f k l i.f2).bind fun b => if b.2.2 = 0 then ((desc_Number.f b.1 b.2.1).bind fun t => if t = true then some (15 : Int) else some b.2.2) else some b.2.2) (ntv l i.f2) := by
      unfold ntv
      exact Ev.bind (ptype_f l hl i.f2) (Ev_both (fun h0 => Ev_bindc (x := numS (ptypeV l i.f2).1 (ptypeV l i.f2).2.1) rfl (Ev_both (fun _ => Ev.now _) (fun _ => by rw [h0]; exact Ev.now _))) (fun _ => Ev.now _))
    have j1 : ∀ x : Bool, Ev (fun k => instr_asks.j1 k l 0 x i.f0 i.f1 i.f2 i.f3) (if x = true then ntv l i.f2 else 0) := fun x => by
      refine Ev.step (fun k => by rw [instr_asks.j1]) ?_
      cases x with
      | true => exact Ev_pos rfl (by simpa using hn)
      | false => exact Ev_neg Bool.false_ne_true (Ev.now _)
    have j0 : ∀ x : Bool, x = decide (26 ≤ i.f1 ∧ i.f1 ≤ 29) → i.f1 ≠ 1 → i.f1 ≠ 25 → Ev (fun k => instr_asks.j0 k l 0 i.f1 x i.f0 i.f1 i.f2 i.f3) (entG l i) := fun x hx h1 h25 => by
      refine Ev.step (fun k => by rw [instr_asks.j0]) ?_
      unfold entG
      rw [if_neg h1, if_neg h25]
      by_cases h2 : 26 ≤ i.f1 ∧ i.f1 ≤ 29
      · rw [if_pos h2, hx, decide_eq_true h2]
        exact Ev_pos rfl (Ev.bind (field_f l hl i.f2) (Ev.now _))
      rw [if_neg h2, hx, decide_eq_false h2]
      refine Ev_neg Bool.false_ne_true ?_
      by_cases h30 : i.f1 = 30
      · rw [if_pos h30]
        refine Ev_pos h30 (Ev.bind (ptype_f l hl i.f2) ?_)
        unfold arv
        exact Ev_both (fun h0 => Ev_both (fun _ => Ev.now _) (fun _ => by rw [h0]; exact Ev.now _)) (fun _ => Ev.now _)
      rw [if_neg h30]
      refine Ev_neg h30 ?_
      have e : (if i.f1 = 36 ∨ i.f1 = 37 then ntv l i.f2 else if 38 ≤ i.f1 ∧ i.f1 ≤ 41 then calv l i.f1 i.f2 else 0) = if i.f1 = 36 ∨ i.f1 = 37 then ntv l i.f2 else 0 := by rw [if_neg h]
      rw [e]
      by_cases h36 : i.f1 = 36
      · rw [if_pos (.inl h36)]; exact Ev_pos h36 (by simpa [h36] using j1 (i.f1 == 36))
      · refine Ev_neg h36 ?_
        have := j1 (i.f1 == 37)
        by_cases h37 : i.f1 = 37
        · rw [if_pos (.inr h37)]; simpa [h37] using this
        · rw [if_neg (by omega)]; simpa [h37] using this
    unfold instr_asks.f
    by_cases h1 : i.f1 = 1
    · refine Ev_pos h1 ?_
      unfold entG
      rw [if_pos h1]
      exact Ev.bind (number_f l hl i.f2) (Ev.now _)
    refine Ev_neg h1 ?_
    by_cases h25 : i.f1 = 25
    · refine Ev_pos h25 ?_
      unfold entG
      rw [if_neg h1, if_pos h25]
      exact Ev.bind (class_f l hl i.f2) (Ev.now _)
    refine Ev_neg h25 ?_
    by_cases h26 : i.f1 = 26
    · exact Ev_pos h26 (j0 _ (by rw [Bool.eq_iff_iff]; simp; omega) h1 h25)
    refine Ev_neg h26 ?_
    by_cases h27 : i.f1 = 27
    · exact Ev_pos h27 (j0 _ (by rw [Bool.eq_iff_iff]; simp; omega) h1 h25)
    refine Ev_neg h27 ?_
    by_cases h28 : i.f1 = 28
    · exact Ev_pos h28 (j0 _ (by rw [Bool.eq_iff_iff]; simp; omega) h1 h25)
    · exact Ev_neg h28 (j0 _ (by rw [Bool.eq_iff_iff]; simp; omega) h1 h25)
theorem typeL_8 (l : List UInt8) : (typeL l).1 ≤ 8 := by
  unfold typeL
  split
  · rename_i h
    have := (first_len h).2.1
    simp
    omega
  · simp
theorem ptype_8 (l : List En) (a : Int) : (ptypeV l a).1 ≤ 8 := by
  unfold ptypeV
  rcases right_cases l a 4 with ⟨x, hr, hk, hw, h3⟩ | ⟨e, he, hr⟩
  · rw [hr]; exact typeL_8 _
  · rw [hr]; simp
theorem rentry_f (l : List En) (hl : Small l) (i : In) : Ev (fun k => keystoneref4_Entry.f k i.f0 i.f1 i.f2 i.f3 l) (entG l i) := by
  have j3 : ∀ (x : Bool) (e : Int) (p : List Ty) (v : Bool) (d : Int) (m : ByteArray), Ev (fun k => keystoneref4_Entry.j3 k e x i.f0 i.f1 i.f2 i.f3 p v d m) (if x = true then 14 else if e = 0 then (if i.f1 = 41 then (if v = true then e else 15) else e) else e) := fun x e p v d m => by
    refine Ev.step (fun k => by rw [keystoneref4_Entry.j3]) ?_
    cases x with
    | true => exact Ev_pos rfl (Ev_neg (by omega) (Ev.now _))
    | false => exact Ev_neg Bool.false_ne_true (Ev_both (fun _ => Ev_both (fun _ => Ev_both (fun _ => Ev.now _) (fun _ => Ev.now _)) (fun _ => Ev.now _)) (fun _ => Ev.now _))
  have j2 : ∀ x : Bool, x = decide (38 ≤ i.f1 ∧ i.f1 ≤ 41) → Ev (fun k => keystoneref4_Entry.j2 k l 0 x i.f0 i.f1 i.f2 i.f3) (if 38 ≤ i.f1 ∧ i.f1 ≤ 41 then calv l i.f1 i.f2 else 0) := fun x hx => by
    refine Ev.step (fun k => by rw [keystoneref4_Entry.j2]) ?_
    by_cases h : 38 ≤ i.f1 ∧ i.f1 ≤ 41
    · rw [if_pos h, hx, decide_eq_true h]
      refine Ev_pos rfl (Ev.bind (rMethod_f l hl i.f2) ?_)
      unfold calv
      refine Ev_both (fun h0 => ?_) (fun h0 => ?_)
      · have := j3 (((methodV l i.f2).2.1.toList == ([60, 105, 110, 105, 116, 62] : List UInt8)) != (i.f1 == 41)) (methodV l i.f2).2.2.2.2.2.2 (methodV l i.f2).2.2.1 (methodV l i.f2).2.2.2.1 (methodV l i.f2).2.2.2.2.1 (methodV l i.f2).2.2.2.2.2.1
        simp only [h0] at this ⊢
        simpa using this
      · have := j3 false (methodV l i.f2).2.2.2.2.2.2 (methodV l i.f2).2.2.1 (methodV l i.f2).2.2.2.1 (methodV l i.f2).2.2.2.2.1 (methodV l i.f2).2.2.2.2.2.1
        simpa [h0] using this
    · rw [if_neg h, hx, decide_eq_false h]; exact Ev_neg Bool.false_ne_true (Ev.now _)
  have j1 : ∀ x : Bool, x = decide (i.f1 = 30 ∨ i.f1 = 36 ∨ i.f1 = 37) → Ev (fun k => keystoneref4_Entry.j1 k l 0 i.f1 x i.f0 i.f1 i.f2 i.f3) (if i.f1 = 30 then arv l i.f2 else if i.f1 = 36 ∨ i.f1 = 37 then ntv l i.f2 else if 38 ≤ i.f1 ∧ i.f1 ≤ 41 then calv l i.f1 i.f2 else 0) := fun x hx => by
    refine Ev.step (fun k => by rw [keystoneref4_Entry.j1]) ?_
    by_cases h : i.f1 = 30 ∨ i.f1 = 36 ∨ i.f1 = 37
    · rw [hx, decide_eq_true h]
      refine Ev_pos rfl (Ev.bind (rType_f l hl i.f2) ?_)
      by_cases h30 : i.f1 = 30
      · rw [if_pos h30, if_pos h30]
        unfold arv
        have h8' := ptype_8 l i.f2
        refine Ev_both (fun h0 => ?_) (fun _ => Ev.now _)
        by_cases h8 : (ptypeV l i.f2).1 = 8
        · exact Ev_pos (by omega) (by rw [if_pos h8]; exact Ev.now _)
        · exact Ev_neg (by omega) (by rw [if_neg h8, h0]; exact Ev.now _)
      · rw [if_neg h30, if_neg h30, if_pos (show i.f1 = 36 ∨ i.f1 = 37 by omega)]
        unfold ntv
        exact Ev_both (fun h0 => Ev_bindc (rnum_f _ _) (Ev_both (fun _ => Ev.now _) (fun _ => by rw [h0]; exact Ev.now _))) (fun _ => Ev.now _)
    · rw [hx, decide_eq_false h, if_neg (by omega), if_neg (by omega)]
      refine Ev_neg Bool.false_ne_true ?_
      by_cases h38 : i.f1 = 38
      · exact Ev_pos h38 (j2 _ (by rw [Bool.eq_iff_iff]; simp; omega))
      refine Ev_neg h38 ?_
      by_cases h39 : i.f1 = 39
      · exact Ev_pos h39 (j2 _ (by rw [Bool.eq_iff_iff]; simp; omega))
      refine Ev_neg h39 ?_
      by_cases h40 : i.f1 = 40
      · exact Ev_pos h40 (j2 _ (by rw [Bool.eq_iff_iff]; simp; omega))
      · exact Ev_neg h40 (j2 _ (by rw [Bool.eq_iff_iff]; simp; omega))
  have j0 : ∀ x : Bool, x = decide (26 ≤ i.f1 ∧ i.f1 ≤ 29) → i.f1 ≠ 1 → i.f1 ≠ 25 → Ev (fun k => keystoneref4_Entry.j0 k l 0 i.f1 x i.f0 i.f1 i.f2 i.f3) (entG l i) := fun x hx h1 h25 => by
    refine Ev.step (fun k => by rw [keystoneref4_Entry.j0]) ?_
    unfold entG
    rw [if_neg h1, if_neg h25]
    by_cases h2 : 26 ≤ i.f1 ∧ i.f1 ≤ 29
    · rw [if_pos h2, hx, decide_eq_true h2]
      exact Ev_pos rfl (Ev.bind (rField_f l hl i.f2) (Ev.now _))
    rw [if_neg h2, hx, decide_eq_false h2]
    refine Ev_neg Bool.false_ne_true ?_
    by_cases h30 : i.f1 = 30
    · exact Ev_pos h30 (j1 _ (by rw [Bool.eq_iff_iff]; simp; omega))
    refine Ev_neg h30 ?_
    by_cases h36 : i.f1 = 36
    · exact Ev_pos h36 (j1 _ (by rw [Bool.eq_iff_iff]; simp; omega))
    · exact Ev_neg h36 (j1 _ (by rw [Bool.eq_iff_iff]; simp; omega))
  unfold keystoneref4_Entry.f
  by_cases h1 : i.f1 = 1
  · refine Ev_pos h1 ?_
    unfold entG
    rw [if_pos h1]
    exact Ev.bind (rNumber_f l hl i.f2) (Ev.now _)
  refine Ev_neg h1 ?_
  by_cases h25 : i.f1 = 25
  · refine Ev_pos h25 ?_
    unfold entG
    rw [if_neg h1, if_pos h25]
    exact Ev.bind (rClass_f l hl i.f2) (Ev.now _)
  refine Ev_neg h25 ?_
  by_cases h26 : i.f1 = 26
  · exact Ev_pos h26 (j0 _ (by rw [Bool.eq_iff_iff]; simp; omega) h1 h25)
  refine Ev_neg h26 ?_
  by_cases h27 : i.f1 = 27
  · exact Ev_pos h27 (j0 _ (by rw [Bool.eq_iff_iff]; simp; omega) h1 h25)
  refine Ev_neg h27 ?_
  by_cases h28 : i.f1 = 28
  · exact Ev_pos h28 (j0 _ (by rw [Bool.eq_iff_iff]; simp; omega) h1 h25)
  · exact Ev_neg h28 (j0 _ (by rw [Bool.eq_iff_iff]; simp; omega) h1 h25)
def placeS (a : Int) : Int → List In → Int
  | _, [] => -1
  | j, i :: r => if i.f0 = a then j else placeS a (j + 1) r
theorem place_l (is : List In) (a : Int) (hn : is.length ≤ 2000000) : ∀ (c j : Nat), j + c = is.length → Ev (fun k => keystoneref4_Place.l0 k is a (j : Int)) (placeS a (j : Int) (is.drop j))
  | 0, j, hj => by
    rw [List.drop_of_length_le (by omega)]
    refine Ev.step (fun k => by rw [keystoneref4_Place.l0]) ?_
    exact Ev_neg (by omega) (Ev.now _)
  | c + 1, j, hj => by
    obtain ⟨i, hi⟩ := at_of (l := is) (j := j) (by omega)
    rw [drop_at hi, placeS]
    have ih := place_l is a hn c (j + 1) (by omega)
    have hw : wrap64 ((j : Int) + 1) = ((j + 1 : Nat) : Int) := by rw [w64] <;> omega
    refine Ev.step (fun k => by rw [keystoneref4_Place.l0, hw, rdI hi]) (Ev_pos (by omega) (Ev_pos (by omega) ?_))
    by_cases h : i.f0 = a
    · rw [if_pos h]; exact Ev_pos h (Ev.now _)
    · rw [if_neg h]; exact Ev_neg h ih
theorem place_f (is : List In) (a : Int) (hn : is.length ≤ 2000000) : Ev (fun k => keystoneref4_Place.f k is a) (placeS a 0 is) := by
  have := place_l is a hn is.length 0 (Nat.zero_add _)
  rwa [List.drop_zero] at this
theorem placeS_lt (a : Int) : ∀ (r : List In) (j : Int), 0 ≤ j → (placeS a j r < 0 ↔ ¬ ∃ y ∈ r, y.f0 = a)
  | [], j, _ => by simp [placeS]
  | i :: r, j, h0 => by
    rw [placeS]
    by_cases h : i.f0 = a
    · rw [if_pos h]
      constructor
      · intro h'; omega
      · intro h'; exact absurd ⟨i, List.mem_cons_self .., h⟩ h'
    · rw [if_neg h, placeS_lt a r (j + 1) (by omega)]
      simp [h]
theorem rck_l (l : List En) (hl : Small l) (loc : Int) (is : List In) (bg : List Bool) (hn : is.length ≤ 2000000) (hbg : ∀ i ∈ is, 19 ≤ i.f1 ∧ i.f1 ≤ 24 → ((i.f2 ≥ (bg.length : Int) ∨ bg.getD i.f2.toNat false = false) ↔ ¬ ∃ y ∈ is, y.f0 = i.f2)) : ∀ (c j : Nat), j + c = is.length →
    Ev (fun k => keystoneref4_Check.l0 k l loc is (j : Int)) (badS (ckS (entG l) loc bg) (is.drop j))
  | 0, j, hj => by
    rw [List.drop_of_length_le (by omega)]
    refine Ev.step (fun k => by rw [keystoneref4_Check.l0]) ?_
    exact Ev_neg (by omega) (Ev.now _)
  | c + 1, j, hj => by
    obtain ⟨i, hi⟩ := at_of (l := is) (j := j) (by omega)
    rw [drop_at hi, badS]
    have ih := rck_l l hl loc is bg hn hbg c (j + 1) (by omega)
    have hw : wrap64 ((j : Int) + 1) = ((j + 1 : Nat) : Int) := by rw [w64] <;> omega
    have e2 := rentry_f l hl i
    have last : ∀ x : Bool, ckS (entG l) loc bg i = (if x = true then 18 else entG l i) → Ev (fun k => keystoneref4_Check.j2 k l loc is (j : Int) x i.f0 i.f1 i.f2 i.f3) (if ckS (entG l) loc bg i = 0 then badS (ckS (entG l) loc bg) (is.drop (j + 1)) else (i.f0, ckS (entG l) loc bg i)) := fun x hx => by
      refine Ev.step (fun k => by rw [keystoneref4_Check.j2, hw]) ?_
      rw [hx]
      cases x with
      | true => exact Ev_pos rfl (Ev.now _)
      | false =>
        refine Ev_neg Bool.false_ne_true (Ev.bind e2 ?_)
        simp only [Bool.false_eq_true, if_false]
        by_cases h0 : entG l i = 0
        · rw [if_pos h0]; exact Ev_pos h0 ih
        · rw [if_neg h0]; exact Ev_neg h0 (Ev.now _)
    have j1 : ∀ x : Bool, x = decide ((i.f1 = 3 ∨ i.f1 = 4) ∧ i.f2 ≥ loc) → Ev (fun k => keystoneref4_Check.j1 k l loc is (j : Int) x i.f0 i.f1 i.f2 i.f3) (if ckS (entG l) loc bg i = 0 then badS (ckS (entG l) loc bg) (is.drop (j + 1)) else (i.f0, ckS (entG l) loc bg i)) := fun x hx => by
      refine Ev.step (fun k => by rw [keystoneref4_Check.j1]) ?_
      by_cases h34 : i.f1 = 3 ∨ i.f1 = 4
      · by_cases hge : i.f2 ≥ loc
        · have hck : ckS (entG l) loc bg i = 43 := by unfold ckS; rw [if_pos h34, if_pos hge]
          rw [hx, decide_eq_true ⟨h34, hge⟩, hck]
          exact Ev_pos rfl (Ev.now _)
        · have hck : ckS (entG l) loc bg i = 0 := by unfold ckS; rw [if_pos h34, if_neg hge]
          have hg : entG l i = 0 := by unfold entG; rw [if_neg (by omega), if_neg (by omega), if_neg (by omega), if_neg (by omega), if_neg (by omega), if_neg (by omega)]
          rw [hx, decide_eq_false (fun h => hge h.2)]
          refine Ev_neg Bool.false_ne_true (Ev_bindc (rjumps_f _) ?_)
          rw [decide_eq_false (by omega)]
          exact Ev_neg Bool.false_ne_true (last false (by rw [hck, hg]; rfl))
      · rw [hx, decide_eq_false (fun h => h34 h.1)]
        refine Ev_neg Bool.false_ne_true (Ev_bindc (rjumps_f _) ?_)
        by_cases hjm : 19 ≤ i.f1 ∧ i.f1 ≤ 24
        · rw [decide_eq_true hjm]
          refine Ev_pos rfl (Ev.bind (place_f is i.f2 hn) ?_)
          have hp := placeS_lt i.f2 is 0 (by omega)
          have hb := hbg i (List.mem_of_getElem? hi) hjm
          have hg : entG l i = 0 := by unfold entG; rw [if_neg (by omega), if_neg (by omega), if_neg (by omega), if_neg (by omega), if_neg (by omega), if_neg (by omega)]
          refine last _ ?_
          unfold ckS
          rw [if_neg h34, if_pos hjm, hg]
          by_cases h : i.f2 ≥ (bg.length : Int) ∨ bg.getD i.f2.toNat false = false
          · rw [if_pos h, decide_eq_true (hp.2 (hb.1 h))]; rfl
          · rw [if_neg h, decide_eq_false (fun h' => h (hb.2 (hp.1 h')))]; rfl
        · rw [decide_eq_false hjm]
          refine Ev_neg Bool.false_ne_true (last false ?_)
          unfold ckS
          rw [if_neg h34, if_neg hjm]
          rfl
    refine Ev.step (fun k => by rw [keystoneref4_Check.l0, rdI hi]) (Ev_pos (by omega) (Ev_pos (by omega) ?_))
    by_cases h3 : i.f1 = 3
    · exact Ev_pos h3 (j1 _ (by rw [Bool.eq_iff_iff]; simp [h3]))
    refine Ev_neg h3 ?_
    by_cases h4 : i.f1 = 4
    · exact Ev_pos h4 (j1 _ (by rw [Bool.eq_iff_iff]; simp [h4]))
    · exact Ev_neg h4 (j1 false (by rw [decide_eq_false (by rintro ⟨h | h, _⟩; exact h3 h; exact h4 h)]))
theorem rchk_f (code : List Int) (hb : Bytes code) (l : List En) (hl : Small l) (loc : Int) : Ev (fun k => keystoneref4_Check.f k code l loc) (checkS (entG l) code loc) := by
  unfold keystoneref4_Check.f checkS
  by_cases h0 : code.length = 0
  · rw [if_pos h0]; exact Ev_pos (by omega) (Ev.now _)
  rw [if_neg h0]
  refine Ev_neg (by omega) ?_
  by_cases h1 : 1024 < code.length
  · rw [if_pos h1]; exact Ev_pos (by omega) (Ev.now _)
  rw [if_neg h1]
  refine Ev_neg (by omega) (Ev.bind (rall_f code hb (by omega)) ?_)
  have hin := parse_in code.length 0 code (Nat.le_refl _)
  cases hp : parse code.length 0 code with
  | error e =>
    obtain ⟨p, e⟩ := e
    have := (hin.2 p e hp).2.2
    exact Ev_neg (show ¬ (e = 0) by omega) (Ev.now _)
  | ok is =>
    have hln := parse_len _ _ _ _ hp
    obtain ⟨hgood, _⟩ := parse_back code.length 0 code is hb (Nat.le_refl _) hp
    have hins : ∀ i ∈ is, 0 ≤ i.f0 ∧ i.f0 < code.length := fun i hi => by
      have := hin.1 is hp i hi
      omega
    refine Ev_pos rfl ?_
    have h := rck_l l hl loc is (markS (List.replicate code.length false) is) (by omega) (fun i hi hj => by
      have h2 := (hgood i hi).2.1
      rw [markS_len, List.length_replicate]
      have hm := mark_at is (List.replicate code.length false) i.f2.toNat (fun x hx => by rw [List.length_replicate]; exact hins x hx)
      rw [rep_at] at hm
      constructor
      · rintro (h | h) ⟨y, hy, he⟩
        · have := hins y hy; omega
        · rw [hm.2 (.inr ⟨y, hy, by omega⟩)] at h; cases h
      · intro h
        by_cases hge : i.f2 ≥ (code.length : Int)
        · exact .inl hge
        · refine .inr ?_
          cases hq : (markS (List.replicate code.length false) is).getD i.f2.toNat false with
          | false => rfl
          | true =>
            rcases hm.1 hq with h' | ⟨y, hy, he⟩
            · cases h'
            · exact absurd ⟨y, hy, by omega⟩ h) is.length 0 (Nat.zero_add _)
    rw [List.drop_zero] at h
    simp only [allOf, List.nil_append]
    exact h
end Go.Proofs.YtldejfkplnejjaaDoor.Pure
namespace Go.Proofs.YtldejfkplnejjaaDoor.Pure
open Go.RowKit Go.Proofs.YtldejfkplnejjaaDoor.P Go.Proofs.YtldejfkplnejjaaDoorW.PrintWords
theorem known_t : Ev (fun k => keystonelaw4_known.f k) true := Ev.of keystonelaw4_known.mono (k := 12) (by decide +kernel)
end Go.Proofs.YtldejfkplnejjaaDoor.Pure
namespace Go.Proofs.YtldejfkplnejjaaDoor.Pure
open Go.RowKit Go.Proofs.YtldejfkplnejjaaDoor.P Go.Proofs.YtldejfkplnejjaaDoorW.PrintWords Go.Proofs.YtldejfkplnejjaaDoor.Open
set_option linter.unusedVariables false
theorem InstrChecks (a0 : List Int) (a1 : List En) (a2 : Int) (h0 : (∀ x_ ∈ a0, (Lit.int .u8 x_).wf = true) ∧ a0.length ≤ maxLen ∧ a0.length * 1 ≤ 140737488351232) (h1 : (∀ x_ ∈ a1, ok50 x_) ∧ a1.length ≤ maxLen ∧ a1.length * 56 ≤ 140737488351232) (h2 : (Lit.int .i64 a2).wf = true) (B : (sumOf (fun x_ => 1) a0 + 1) + (sumOf m50 a1 + 1) + (1) ≤ 1048576) : ∃ k, keystonelaw4_InstrChecks.f k a0 a1 a2 = some true := by
  refine Ev.rounds ?_
  have hb := bytes_of h0.1
  have hs : Small a1 := fun x hx => by
    have h := sumOf_mem (m := m50) hx
    unfold m50 at h
    have hB := B
    unfold m50 at hB
    omega
  unfold keystonelaw4_InstrChecks.f
  refine Ev.bind known_t (Ev_pos rfl ?_)
  have stop : Ev (fun k => keystonelaw4_InstrChecks.j0 k a0 a1 a2 true) true := by
    refine Ev.step (fun k => by rw [keystonelaw4_InstrChecks.j0]) ?_
    exact Ev_pos rfl (Ev.now _)
  by_cases hl : (a0.length : Int) > 1100
  · exact Ev_pos hl stop
  refine Ev_neg hl ?_
  by_cases hm : (a1.length : Int) > 400
  · rw [decide_eq_true hm]; exact stop
  rw [decide_eq_false hm]
  refine Ev.step (fun k => by rw [keystonelaw4_InstrChecks.j0]) ?_
  refine Ev_neg Bool.false_ne_true (Ev_some (Ev_pos (by simp only [List.length_nil]; omega) (Ev_some (Ev_pos (by simp only [List.length_nil]; omega) ?_))))
  rw [List.nil_append, List.nil_append]
  exact Ev.bind (check_f a0 hb a1 (entG a1) (told_v a1 hs) a2) (Ev.bind (rchk_f a0 hb a1 hs a2) (Ev_pos rfl (Ev_const (by simp))))
end Go.Proofs.YtldejfkplnejjaaDoor.Pure
