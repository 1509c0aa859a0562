/- PoolOwn, plainly. -/
import Derived.Test.YtldejfkplnejjaaDoorWMore
import Derived.Test.YtldejfkplnejjaaDoorExtSig
import Derived.Test.YtldejfkplnejjaaDoorKinds
import Derived.Test.YtldejfkplnejjaaDoorP3
import Derived.Test.YtldejfkplnejjaaDoorP4
import Derived.Test.YtldejfkplnejjaaDoorExtUses
import Derived.Test.YtldejfkplnejjaaDoorP5
import Derived.Test.YtldejfkplnejjaaDoorP6
import Derived.Test.YtldejfkplnejjaaDoorP7
import Derived.Test.YtldejfkplnejjaaDoorP8
import Derived.Test.YtldejfkplnejjaaDoorExtText
import Derived.Test.YtldejfkplnejjaaDoorP29
import Derived.Test.YtldejfkplnejjaaDoorExtL0
import Derived.Test.YtldejfkplnejjaaDoorExtO
namespace Go.Proofs.YtldejfkplnejjaaDoor.Pure
open Go.RowKit Go.Proofs.YtldejfkplnejjaaDoorW.PrintWords
theorem w64 {n : Int} (h0 : -9223372036854775808 ≤ n) (h1 : n ≤ 9223372036854775807) : wrap64 n = n := by unfold wrap64; omega
theorem Ev_const {α : Type} {o : Option α} {r : α} (h : o = some r) : Ev (fun _ => o) r := ⟨0, fun _ _ => h⟩
theorem Ev_pos {α : Type} {c : Prop} [Decidable c] {f g : Nat → Option α} {r : α} (hc : c) (h : Ev f r) : Ev (fun k => if c then f k else g k) r := by
  simpa only [if_pos hc] using h
theorem Ev_neg {α : Type} {c : Prop} [Decidable c] {f g : Nat → Option α} {r : α} (hc : ¬ c) (h : Ev g r) : Ev (fun k => if c then f k else g k) r := by
  simpa only [if_neg hc] using h
theorem Ev_ite {α : Type} {c : Prop} [Decidable c] {f g : Nat → Option α} {r : α} (h : c → Ev f r) (h' : ¬ c → Ev g r) : Ev (fun k => if c then f k else g k) r := by
  by_cases hc : c
  · exact Ev_pos hc (h hc)
  · exact Ev_neg hc (h' hc)
theorem Ev_bindc {α β : Type} {o : Option α} {x : α} {f : Nat → α → Option β} {r : β} (ho : o = some x) (h : Ev (fun n => f n x) r) : Ev (fun n => o.bind (f n)) r := by
  subst ho; exact h
theorem getD_at {α : Type} {l : List α} {d : α} {i : Int} {x : α} {j : Nat} (hi : i = j) (h : l[j]? = some x) : l.getD i.toNat d = x := by
  subst hi
  simp [List.getD, h]
theorem at_of {α : Type} {l : List α} {j : Nat} (h : j < l.length) : ∃ x, l[j]? = some x := ⟨l[j], List.getElem?_eq_getElem h⟩
theorem drop_at {α : Type} {l : List α} {j : Nat} {x : α} (h : l[j]? = some x) : l.drop j = x :: l.drop (j + 1) := by
  obtain ⟨hj, rfl⟩ := List.getElem?_eq_some_iff.1 h
  exact List.drop_eq_getElem_cons hj
end Go.Proofs.YtldejfkplnejjaaDoor.Pure
namespace Go.Proofs.YtldejfkplnejjaaDoor.Pure
open Go.RowKit Go.Proofs.YtldejfkplnejjaaDoor.P Go.Proofs.YtldejfkplnejjaaDoorW.PrintWords
set_option linter.unusedVariables false
def LL (s : ByteArray) : List UInt8 := s.data.toList
theorem LL_length (s : ByteArray) : (LL s).length = s.size := by simp [LL]
theorem LL_inj {a b : ByteArray} (h : LL a = LL b) : a = b := by
  cases a; cases b; simpa [LL] using h
theorem toList_LL (s : ByteArray) : s.toList = LL s := ByteArray.toList_eq s
theorem bt_of {s : ByteArray} {j : Nat} {c : UInt8} (h : (LL s)[j]? = some c) : bt s (j : Int) = (c.toNat : Int) := by
  obtain ⟨hj, rfl⟩ := List.getElem?_eq_some_iff.1 h
  rw [LL_length] at hj
  unfold bt
  rw [dif_pos (by simpa using hj)]
  rfl
theorem LL_extract (s : ByteArray) (i j : Nat) : LL (s.extract i j) = ((LL s).take j).drop i := by
  simp [LL, ByteArray.data_extract, Array.toList_extract, List.drop_take]
def letterS (c : Int) (first : Bool) : Bool := decide ((97 ≤ c ∧ c ≤ 122) ∨ (65 ≤ c ∧ c ≤ 90) ∨ c = 95) || (!first && decide (48 ≤ c ∧ c ≤ 57))
theorem letterS_t {c : Int} {f : Bool} (h : (97 ≤ c ∧ c ≤ 122) ∨ (65 ≤ c ∧ c ≤ 90) ∨ c = 95) : letterS c f = true := by unfold letterS; rw [decide_eq_true h]; rfl
theorem letterS_n {c : Int} {f : Bool} (h : ¬ ((97 ≤ c ∧ c ≤ 122) ∨ (65 ≤ c ∧ c ≤ 90) ∨ c = 95)) (h' : f = true ∨ ¬ (48 ≤ c ∧ c ≤ 57)) : letterS c f = false := by
  unfold letterS
  rw [decide_eq_false h]
  rcases h' with rfl | h'
  · rfl
  · rw [decide_eq_false h']; simp
theorem letter_f (c : Int) (b : Bool) : desc_letter.f c b = some (letterS c b) := by
  by_cases h : (97 ≤ c ∧ c ≤ 122) ∨ (65 ≤ c ∧ c ≤ 90) ∨ c = 95
  · rw [letterS_t h]
    unfold desc_letter.f
    repeat' split
    all_goals first | rfl | (exfalso; omega)
  · cases b with
    | true =>
      rw [letterS_n h (.inl rfl)]
      unfold desc_letter.f
      repeat' split
      all_goals first | rfl | (exfalso; omega) | (exfalso; simp_all; done)
    | false =>
      have e : letterS c false = decide (48 ≤ c ∧ c ≤ 57) := by unfold letterS; rw [decide_eq_false h]; simp
      rw [e]
      unfold desc_letter.f
      repeat' split
      all_goals first | (exfalso; omega) | (exfalso; simp_all; done) | (congr 1; simp; omega)
def allL : Bool → List UInt8 → Bool
  | _, [] => true
  | f, c :: l => letterS (c.toNat : Int) f && allL false l
def nmL (l : List UInt8) : Bool := allL true l && (decide (l ≠ []) && decide (l.length ≤ 32))
def nm (s : ByteArray) : Bool := nmL (LL s)
theorem dname_l (s : ByteArray) (hs : s.size ≤ 140737488355328) : ∀ (d j : Nat), j + d = s.size →
    Ev (fun k => desc_Name.l0 k s (s.size : Int) (j : Int)) (allL (decide (j = 0)) ((LL s).drop j) && (decide (LL s ≠ []) && decide ((LL s).length ≤ 32)))
  | 0, j, hj => by
    refine Ev.step (fun k => by rw [desc_Name.l0]) (Ev_neg (by omega) ?_)
    rw [List.drop_of_length_le (by rw [LL_length]; omega), toList_LL, LL_length]
    refine Ev_ite (fun h => Ev_const ?_) (fun h => Ev_const ?_)
    · rw [h]; rfl
    · simp [allL, h]; omega
  | d + 1, j, hj => by
    obtain ⟨c, hc⟩ := at_of (l := LL s) (j := j) (by rw [LL_length]; omega)
    rw [drop_at hc]
    refine Ev.step (fun k => by rw [desc_Name.l0]) (Ev_pos (by omega) (Ev_pos (by omega) (Ev_pos (by omega) (Ev_bindc (letter_f _ _) ?_))))
    rw [bt_of hc, show ((j : Int) == 0) = decide (j = 0) by by_cases h : j = 0 <;> simp [h]]
    rw [allL]
    by_cases hl : letterS (c.toNat : Int) (decide (j = 0)) = true
    · rw [hl, Bool.true_and]
      refine Ev_pos rfl ?_
      rw [show wrap64 ((j : Int) + 1) = ((j + 1 : Nat) : Int) by rw [w64] <;> omega]
      have ih := dname_l s hs d (j + 1) (by omega)
      rwa [show decide (j + 1 = 0) = false by simp] at ih
    · rw [Bool.not_eq_true] at hl
      rw [hl]
      exact Ev_neg Bool.false_ne_true (Ev.now _)
theorem dname_f (s : ByteArray) (hs : s.size ≤ 140737488355328) : Ev (fun k => desc_Name.f k s) (nm s) := by
  have h := dname_l s hs s.size 0 (Nat.zero_add _)
  rwa [show decide (0 = 0) = true from rfl, List.drop_zero] at h
def isInit (s : ByteArray) : Prop := s.toList = ([60, 105, 110, 105, 116, 62] : List UInt8)
instance (s : ByteArray) : Decidable (isInit s) := by unfold isInit; infer_instance
def mth (s : ByteArray) : Bool := if isInit s then true else nm s
def BA (l : List UInt8) : ByteArray := ⟨l.toArray⟩
theorem LL_BA (l : List UInt8) : LL (BA l) = l := by simp [LL, BA]
theorem BA_eq {s : ByteArray} {l : List UInt8} (h : LL s = l) : s = BA l := LL_inj (h.trans (LL_BA l).symm)
theorem BA_size (l : List UInt8) : (BA l).size = l.length := by rw [← LL_length, LL_BA]
theorem extract_BA (s : ByteArray) (j : Nat) : s.extract j s.size = BA ((LL s).drop j) := BA_eq (by rw [LL_extract, List.take_of_length_le (by rw [LL_length]; exact Nat.le_refl _)])
def brk (l : List UInt8) : Nat := (l.takeWhile (· == 91)).length
def semi (l : List UInt8) : Nat := (l.takeWhile (· != 59)).length
theorem brk_drop : ∀ l : List UInt8, l.dropWhile (· == 91) = l.drop (brk l)
  | [] => rfl
  | a :: l => by
    unfold brk
    by_cases h : (a == 91) = true
    · rw [List.dropWhile_cons_of_pos (p := (· == (91 : UInt8))) h, List.takeWhile_cons_of_pos (p := (· == (91 : UInt8))) h, List.length_cons, List.drop_succ_cons]; exact brk_drop l
    · rw [List.dropWhile_cons_of_neg (p := (· == (91 : UInt8))) h, List.takeWhile_cons_of_neg (p := (· == (91 : UInt8))) h]; rfl
theorem brk_le (l : List UInt8) : brk l ≤ l.length := (List.takeWhile_sublist _).length_le
def firstL (l : List UInt8) : Option (Nat × List UInt8 × List UInt8) :=
  if 8 < brk l then none else match l.drop (brk l) with
    | [] => none
    | c :: t => if c = 73 then some (brk l, [], t) else if c = 76 then (if semi t < t.length ∧ nmL (t.take (semi t)) = true then some (brk l, t.take (semi t), t.drop (semi t + 1)) else none) else none
def firstS : Option (Nat × List UInt8 × List UInt8) → Int × ByteArray × ByteArray × Bool
  | none => (0, ⟨#[]⟩, ⟨#[]⟩, false)
  | some (n, m, r) => ((n : Int), BA m, BA r, true)
theorem hasPrefix_f (s : ByteArray) (c : UInt8) : strings_HasPrefix.f s ⟨#[c]⟩ = some (decide ((LL s).head? = some c)) := by
  unfold strings_HasPrefix.f stringslite_HasPrefix.f
  have h1 : ((⟨#[c]⟩ : ByteArray).size : Int) = 1 := rfl
  rw [h1]
  cases hl : LL s with
  | nil =>
    have : s.size = 0 := by rw [← LL_length, hl]; rfl
    rw [if_neg (by omega)]; simp
  | cons a l =>
    have : s.size = l.length + 1 := by rw [← LL_length, hl]; rfl
    rw [if_pos (by omega), if_pos (by omega), if_pos (by omega)]
    simp only [Option.bind_some, toList_LL, LL_extract, hl]
    show some (_ == [c]) = _
    simp
    by_cases h : a = c <;> simp [h]
theorem indexByte_semi : ∀ l : List UInt8, Lib.indexByte l 59 = if semi l < l.length then (semi l : Int) else -1
  | [] => rfl
  | a :: l => by
    have ih := indexByte_semi l
    unfold Lib.indexByte semi
    by_cases h : a = 59
    · subst h; simp
    · have h' : (a != 59) = true := by simpa using h
      have h'' : (a == 59) = false := by simpa using h
      have e : (List.takeWhile (· != (59 : UInt8)) (a :: l)).length = semi l + 1 := by rw [List.takeWhile_cons_of_pos (p := (· != (59 : UInt8))) h']; rfl
      rw [h'', if_neg Bool.false_ne_true, e, List.length_cons]
      by_cases hs : semi l < l.length
      · rw [if_pos hs] at ih
        rw [ih, if_pos (show semi l + 1 < l.length + 1 by omega), if_neg (by simp)]; rfl
      · rw [if_neg hs] at ih
        rw [ih, if_neg (show ¬ semi l + 1 < l.length + 1 by omega)]; rfl
theorem cut_f (s : ByteArray) (hs : s.size ≤ 140737488355328) : strings_Cut.f s ⟨#[59]⟩ = some (if semi (LL s) < (LL s).length then (BA ((LL s).take (semi (LL s))), BA ((LL s).drop (semi (LL s) + 1)), true) else (s, ⟨#[]⟩, false)) := by
  unfold strings_Cut.f stringslite_Cut.f stringslite_Index.f
  rw [if_pos rfl, show s.data.toList = LL s from rfl, indexByte_semi]
  have h1 : ((⟨#[59]⟩ : ByteArray).size : Int) = 1 := rfl
  by_cases h : semi (LL s) < (LL s).length
  · rw [if_pos h, if_pos h]
    have hl := LL_length s
    simp only [Option.bind_some, h1]
    rw [w64 (by omega) (by omega), if_pos (by omega), if_pos (by omega), if_pos (by omega), if_pos (by omega), if_pos (by omega)]
    simp only [Option.bind_some]
    rw [show ((semi (LL s) : Int) + 1).toNat = semi (LL s) + 1 by omega, extract_BA, Int.toNat_natCast]
    congr 2
    exact BA_eq (by rw [LL_extract]; simp)
  · rw [if_neg h, if_neg h]; rfl
theorem first_f (s : ByteArray) (hs : s.size ≤ 140737488355328) : Ev (fun k => desc_first.f k s) (firstS (firstL (LL s))) := by
  unfold desc_first.f firstL
  have hl := LL_length s
  have hb := brk_le (LL s)
  refine Ev_bindc (x := BA ((LL s).drop (brk (LL s)))) (by unfold strings_TrimLeft.f; rw [if_pos rfl]; show some (BA (Lib.trimLeftB (LL s) 91)) = _; unfold Lib.trimLeftB; rw [brk_drop]) ?_
  simp only [BA_size, List.length_drop]
  have hn : wrap64 ((s.size : Int) - (((LL s).length - brk (LL s) : Nat) : Int)) = (brk (LL s) : Int) := by rw [w64] <;> omega
  rw [hn]
  by_cases h8 : 8 < brk (LL s)
  · rw [if_pos h8]; exact Ev_pos (by omega) (Ev.now _)
  rw [if_neg h8]
  refine Ev_neg (by omega) (Ev_pos (by omega) (Ev_pos (by omega) ?_))
  rw [Int.toNat_natCast, extract_BA]
  refine Ev_bindc (hasPrefix_f _ 73) ?_
  rw [LL_BA]
  have hsz : (BA ((LL s).drop (brk (LL s)))).size ≤ 140737488355328 := by rw [BA_size, List.length_drop]; omega
  generalize (LL s).drop (brk (LL s)) = u at hsz
  match u, hsz with
  | [], hsz =>
    refine Ev_neg (by simp) (Ev_bindc (cut_f _ hsz) ?_)
    rw [LL_BA]
    exact Ev_neg (by simp) (Ev.now _)
  | c :: t, hsz =>
    by_cases h1 : c = 73
    · subst h1
      refine Ev_pos (by simp) (Ev_pos (by rw [BA_size]; simp; omega) ?_)
      rw [extract_BA, LL_BA]
      exact Ev.now _
    have h1' : ¬ (decide ((c :: t).head? = some 73) = true) := by simpa using h1
    refine Ev_neg h1' (Ev_bindc (cut_f _ hsz) ?_)
    rw [LL_BA]
    simp only
    rw [if_neg h1]
    by_cases h2 : c = 76
    · subst h2
      rw [if_pos rfl]
      have e : semi (76 :: t) = semi t + 1 := by unfold semi; rw [List.takeWhile_cons_of_pos (by decide)]; rfl
      simp only [e, List.length_cons]
      by_cases h3 : semi t < t.length
      · rw [if_pos (show semi t + 1 < t.length + 1 by omega)]
        refine Ev_pos rfl (Ev_bindc (hasPrefix_f _ 76) (Ev_pos ?_ (Ev_pos ?_ ?_)))
        · rw [LL_BA]; simp
        · rw [BA_size]; simp; omega
        · simp only [extract_BA, LL_BA]
          rw [show ((76 :: t).take (semi t + 1)).drop 1 = t.take (semi t) by simp]
          refine Ev.bind (dname_f _ (by rw [BA_size]; simp only [BA_size, List.length_cons, List.length_take] at hsz ⊢; omega)) ?_
          have hnm : nm (BA (t.take (semi t))) = nmL (t.take (semi t)) := by unfold nm; rw [LL_BA]
          rw [hnm]
          by_cases h4 : nmL (t.take (semi t)) = true
          · refine Ev_pos h4 ?_
            rw [if_pos ⟨h3, h4⟩]
            exact Ev_const (by simp [firstS])
          · refine Ev_neg h4 ?_
            rw [if_neg (fun h => h4 h.2)]
            exact Ev.now _
      · rw [if_neg (show ¬ semi t + 1 < t.length + 1 by omega), if_neg (fun h => h3 h.1)]
        exact Ev_neg Bool.false_ne_true (Ev.now _)
    · rw [if_neg h2]
      refine Ev_ite (fun h5 => ?_) (fun _ => Ev.now _)
      by_cases h3 : semi (c :: t) < (c :: t).length
      · rw [if_pos h3]
        refine Ev_bindc (hasPrefix_f _ 76) (Ev_neg ?_ (Ev.now _))
        rw [LL_BA]
        cases hsm : semi (c :: t) with
        | zero => simp
        | succ n => simp [h2]
      · rw [if_neg h3] at h5
        exact absurd h5 Bool.false_ne_true
def typeL (l : List UInt8) : Int × ByteArray × Int := match firstL l with
  | some (n, m, []) => ((n : Int), BA m, 0)
  | _ => (0, ⟨#[]⟩, 15)
theorem type_f (s : ByteArray) (hs : s.size ≤ 140737488355328) : Ev (fun k => desc_Type.f k s) (typeL (LL s)) := by
  unfold desc_Type.f typeL
  refine Ev.bind (first_f s hs) ?_
  cases h : firstL (LL s) with
  | none => exact Ev_neg Bool.false_ne_true (Ev.now _)
  | some r =>
    obtain ⟨n, m, r⟩ := r
    refine Ev_pos rfl ?_
    cases r with
    | nil => exact Ev_pos (show (BA []).toList = [] by rw [toList_LL, LL_BA]) (Ev.now _)
    | cons a r => exact Ev_neg (show ¬ (BA (a :: r)).toList = [] by rw [toList_LL, LL_BA]; simp) (Ev.now _)
theorem first_len {l : List UInt8} {n : Nat} {m r : List UInt8} (h : firstL l = some (n, m, r)) : r.length < l.length ∧ n ≤ 8 ∧ m.length ≤ 32 := by
  unfold firstL at h
  split at h
  · cases h
  · rename_i h8
    split at h
    · cases h
    · rename_i c t hd
      have hlen : t.length + 1 = l.length - brk l := by rw [← List.length_drop, hd]; rfl
      split at h
      · simp only [Option.some.injEq, Prod.mk.injEq] at h
        obtain ⟨rfl, rfl, rfl⟩ := h
        exact ⟨by omega, by omega, by simp⟩
      · split at h
        · split at h
          · rename_i hh
            simp only [Option.some.injEq, Prod.mk.injEq] at h
            obtain ⟨rfl, rfl, rfl⟩ := h
            have := hh.2
            unfold nmL at this
            simp only [Bool.and_eq_true, decide_eq_true_eq] at this
            exact ⟨by rw [List.length_drop]; omega, by omega, this.2.2⟩
          · cases h
        · cases h
abbrev Ty := S34
abbrev SigV := List Ty × Bool × Int × ByteArray × Int
def sigE (acc : List Ty) (r : List UInt8) : SigV :=
  if r = [86] then (if 16 < acc.length then ([], false, 0, ⟨#[]⟩, 4) else (acc, true, 0, ⟨#[]⟩, 0))
  else match firstL r with
    | some (n, m, []) => if 16 < acc.length then ([], false, 0, ⟨#[]⟩, 4) else (acc, false, (n : Int), BA m, 0)
    | _ => ([], false, 0, ⟨#[]⟩, 15)
def sigP : Nat → List Ty → List UInt8 → SigV
  | _, _, [] => ([], false, 0, ⟨#[]⟩, 15)
  | 0, _, _ :: _ => ([], false, 0, ⟨#[]⟩, 15)
  | f + 1, acc, c :: t => if c = 41 then sigE acc t else match firstL (c :: t) with
    | none => ([], false, 0, ⟨#[]⟩, 15)
    | some (n, m, r) => sigP f (acc ++ [⟨(n : Int), BA m⟩]) r
def sigS : List UInt8 → SigV
  | 40 :: t => sigP t.length [] t
  | _ => ([], false, 0, ⟨#[]⟩, 15)
theorem dsig_l : ∀ (f : Nat) (acc : List Ty) (s : ByteArray), s.size ≤ f → s.size ≤ 1000000000000 → acc.length + s.size ≤ 1000000000000 → Ev (fun k => desc_Sig.l0 k s acc false 0 ⟨#[]⟩) (sigP f acc (LL s))
  | f, acc, s, hf, hs, ha => by
    have hl := LL_length s
    refine Ev.step (fun k => by rw [desc_Sig.l0]) (Ev_bindc (hasPrefix_f s 41) ?_)
    match hu : LL s, f with
    | [], f =>
      refine Ev_neg (by simp) (Ev.bind (first_f s (by omega)) ?_)
      rw [hu]
      refine Ev_neg Bool.false_ne_true ?_
      cases f <;> exact Ev.now _
    | c :: t, 0 => rw [hu] at hl; simp at hl; omega
    | c :: t, f + 1 =>
      rw [hu] at hl
      simp only [List.length_cons] at hl
      by_cases hc : c = 41
      · subst hc
        refine Ev_pos (by simp) ?_
        have hx : s.extract 1 s.size = BA t := by rw [extract_BA, hu]; rfl
        show Ev _ (sigE acc t)
        unfold sigE
        by_cases hv : t = [86]
        · rw [if_pos hv]
          refine Ev_pos (by rw [toList_LL, hu, hv]) ?_
          by_cases h16 : 16 < acc.length
          · exact Ev_pos (by omega) (by rw [if_pos h16]; exact Ev.now _)
          · exact Ev_neg (by omega) (by rw [if_neg h16]; exact Ev.now _)
        · rw [if_neg hv]
          refine Ev_neg (by rw [toList_LL, hu]; simpa using hv) (Ev_pos (by omega) ?_)
          rw [hx]
          refine Ev.bind (first_f _ (by rw [BA_size]; omega)) ?_
          rw [LL_BA]
          have bad : ∀ (x : Int) (y : ByteArray), Ev (fun k => desc_Sig.j1 k true acc false x y) (([], false, 0, ⟨#[]⟩, 15) : SigV) := fun x y => by
            refine Ev.step (fun k => by rw [desc_Sig.j1]) ?_
            exact Ev_pos rfl (Ev.now _)
          cases hfl : firstL t with
          | none => exact Ev_neg Bool.false_ne_true (bad _ _)
          | some q =>
            obtain ⟨n, m, r⟩ := q
            refine Ev_pos rfl ?_
            cases r with
            | nil =>
              have e : ((BA []).toList != ([] : List UInt8)) = false := by rw [toList_LL, LL_BA]; rfl
              show Ev (fun k => desc_Sig.j1 k ((BA []).toList != ([] : List UInt8)) acc false (n : Int) (BA m)) _
              rw [e]
              refine Ev.step (fun k => by rw [desc_Sig.j1]) (Ev_neg Bool.false_ne_true ?_)
              by_cases h16 : 16 < acc.length
              · exact Ev_pos (by omega) (by simp only; rw [if_pos h16]; exact Ev.now _)
              · exact Ev_neg (by omega) (by simp only; rw [if_neg h16]; exact Ev.now _)
            | cons x r =>
              have e : ((BA (x :: r)).toList != ([] : List UInt8)) = true := by rw [toList_LL, LL_BA]; rfl
              show Ev (fun k => desc_Sig.j1 k ((BA (x :: r)).toList != ([] : List UInt8)) acc false (n : Int) (BA m)) _
              rw [e]
              exact bad _ _
      · refine Ev_neg (by simpa using hc) (Ev.bind (first_f s (by omega)) ?_)
        rw [hu]
        simp only [sigP]
        rw [if_neg hc]
        cases hfl : firstL (c :: t) with
        | none => exact Ev_neg Bool.false_ne_true (Ev.now _)
        | some q =>
          obtain ⟨n, m, r⟩ := q
          obtain ⟨h1, h2, h3⟩ := first_len hfl
          simp only [List.length_cons] at h1
          refine Ev_pos rfl (Ev_pos (by omega) ?_)
          have ih := dsig_l f (acc ++ [⟨(n : Int), BA m⟩]) (BA r) (by rw [BA_size]; omega) (by rw [BA_size]; omega) (by rw [BA_size]; simp; omega)
          rw [LL_BA] at ih
          exact ih
theorem dsig_f (s : ByteArray) (hs : s.size ≤ 1000000000000) : Ev (fun k => desc_Sig.f k s) (sigS (LL s)) := by
  unfold desc_Sig.f
  have hl := LL_length s
  refine Ev_bindc (hasPrefix_f s 40) ?_
  cases hu : LL s with
  | nil => exact Ev_neg (by simp) (Ev.now _)
  | cons c t =>
    rw [hu] at hl
    simp only [List.length_cons] at hl
    by_cases hc : c = 40
    · subst hc
      refine Ev_pos (by simp) (Ev_pos (by omega) ?_)
      have hx : s.extract 1 s.size = BA t := by rw [extract_BA, hu]; rfl
      rw [hx]
      have := dsig_l t.length [] (BA t) (by rw [BA_size]; exact Nat.le_refl _) (by rw [BA_size]; omega) (by rw [BA_size]; simp; omega)
      rw [LL_BA] at this
      exact this
    · refine Ev_neg (by simpa using hc) ?_
      have e : sigS (c :: t) = ([], false, 0, ⟨#[]⟩, 15) := by
        unfold sigS
        split
        · rename_i h; simp at h; exact absurd h.1 hc
        · rfl
      rw [e]
      exact Ev.now _
theorem dmethod_f (s : ByteArray) (hs : s.size ≤ 140737488355328) : Ev (fun k => desc_Method.f k s) (mth s) := by
  unfold desc_Method.f mth
  by_cases h : isInit s
  · rw [if_pos h]; exact Ev_pos h (Ev.now _)
  · rw [if_neg h]; exact Ev_neg h (Ev.bind (dname_f s hs) (Ev.now _))
end Go.Proofs.YtldejfkplnejjaaDoor.Pure
namespace Go.Proofs.YtldejfkplnejjaaDoor.Pure
open Go.RowKit Go.Proofs.YtldejfkplnejjaaDoor.P Go.Proofs.YtldejfkplnejjaaDoorW.PrintWords
set_option linter.unusedVariables false
abbrev En := S50
def kindS (l : List En) (i w : Int) : Option En := if 0 ≤ i then (match l[i.toNat]? with | some x => if x.f0 = w then some x else none | none => none) else none
def kindV : Option En → Int × ByteArray × Int × Int × Int × Int × Int
  | some x => (x.f0, x.f1, x.f2, x.f3, x.f4, x.f5, 0)
  | none => (0, ⟨#[]⟩, 0, 0, 0, 0, 16)
theorem rdE {l : List En} {i : Int} {x : En} (h0 : 0 ≤ i) (h : l[i.toNat]? = some x) : rd_T50 l i = x := by
  have : i = ((i.toNat : Nat) : Int) := by omega
  exact getD_at this h
theorem kindS_in {l : List En} {i w : Int} {x : En} (h : kindS l i w = some x) : x ∈ l ∧ 0 ≤ i ∧ i < l.length ∧ l[i.toNat]? = some x ∧ x.f0 = w := by
  unfold kindS at h
  split at h
  · rename_i h0
    split at h
    · rename_i y hy
      split at h
      · rename_i hw
        obtain rfl := Option.some.inj h
        exact ⟨List.mem_of_getElem? hy, h0, by have := (List.getElem?_eq_some_iff.1 hy).1; omega, hy, hw⟩
      · cases h
    · cases h
  · cases h
theorem kind_f (l : List En) (i w : Int) : pool_kind.f l i w = some (kindV (kindS l i w)) := by
  unfold pool_kind.f
  by_cases h0 : i < 0
  · rw [if_pos h0]; unfold kindS; rw [if_neg (by omega)]; rfl
  rw [if_neg h0]
  by_cases h1 : i ≥ (l.length : Int)
  · rw [if_pos h1]; unfold kindS; rw [if_pos (by omega), List.getElem?_eq_none (by omega)]; rfl
  have hp0 : 0 ≤ i := by omega
  rw [if_neg h1, if_pos hp0, if_pos (show i < (l.length : Int) by omega)]
  obtain ⟨x, hx⟩ := at_of (l := l) (j := i.toNat) (by omega)
  rw [rdE hp0 hx]
  have hk : kindS l i w = if x.f0 = w then some x else none := by
    unfold kindS
    rw [if_pos hp0, hx]
  rw [hk]
  by_cases hw : x.f0 = w
  · rw [if_pos hw, if_pos hw]; rfl
  · rw [if_neg hw, if_neg hw]; rfl
def Small (l : List En) : Prop := ∀ x ∈ l, x.f1.size ≤ 1000000000
def namedS (m : Bool) (l : List En) (i : Int) : Int := match kindS l i 1 with
  | none => 16
  | some x => if (if m = true then mth x.f1 else nm x.f1) = true then 0 else 14
def typedS (l : List En) (i : Int) : Int := match kindS l i 1 with
  | none => 16
  | some x => (typeL (LL x.f1)).2.2
def signedS (l : List En) (i : Int) : Int := match kindS l i 1 with
  | none => 16
  | some x => (sigS (LL x.f1)).2.2.2.2
theorem named_f (m : Bool) (l : List En) (hl : Small l) (i : Int) : Ev (fun k => pool_named.f k m l i) (namedS m l i) := by
  unfold pool_named.f namedS
  refine Ev_bindc (kind_f l i 1) ?_
  cases h : kindS l i 1 with
  | none => exact Ev_neg (show ¬ ((16 : Int) = 0) by omega) (Ev.now _)
  | some x =>
    have hs := hl x (kindS_in h).1
    refine Ev_pos rfl ?_
    cases m with
    | true => exact Ev.bind (dmethod_f x.f1 (by omega)) (Ev.now _)
    | false => exact Ev.bind (dname_f x.f1 (by omega)) (Ev.now _)
theorem typed_f (l : List En) (hl : Small l) (i : Int) : Ev (fun k => pool_typed.f k l i) (typedS l i) := by
  unfold pool_typed.f typedS
  refine Ev_bindc (kind_f l i 1) ?_
  cases h : kindS l i 1 with
  | none => exact Ev_neg (show ¬ ((16 : Int) = 0) by omega) (Ev.now _)
  | some x =>
    have hs := hl x (kindS_in h).1
    exact Ev_pos rfl (Ev.bind (type_f x.f1 (by omega)) (Ev.now _))
theorem signed_f (l : List En) (hl : Small l) (i : Int) : Ev (fun k => pool_signed.f k l i) (signedS l i) := by
  unfold pool_signed.f signedS
  refine Ev_bindc (kind_f l i 1) ?_
  cases h : kindS l i 1 with
  | none => exact Ev_neg (show ¬ ((16 : Int) = 0) by omega) (Ev.now _)
  | some x =>
    have hs := hl x (kindS_in h).1
    exact Ev_pos rfl (Ev.bind (dsig_f x.f1 (by omega)) (Ev.now _))
def usesS (l : List En) (x : En) : Int :=
  if x.f0 = 1 then (if (x.f1.size : Int) > 255 then 5 else 0) else if x.f0 = 2 then 0 else if x.f0 = 3 then namedS false l x.f3 else if x.f0 = 4 then typedS l x.f3
  else match kindS l x.f3 3 with
    | none => 16
    | some _ => if x.f0 = 6 then (if namedS true l x.f4 = 0 then signedS l x.f5 else namedS true l x.f4) else (if namedS false l x.f4 = 0 then typedS l x.f5 else namedS false l x.f4)
theorem uses_f (l : List En) (hl : Small l) (x : En) : Ev (fun k => pool_uses.f k l x.f0 x.f1 x.f2 x.f3 x.f4 x.f5) (usesS l x) := by
  unfold pool_uses.f usesS
  by_cases h1 : x.f0 = 1
  · rw [if_pos h1]
    refine Ev_pos h1 ?_
    by_cases h : (x.f1.size : Int) > 255
    · refine Ev_pos h ?_; rw [if_pos h]; exact Ev.now _
    · refine Ev_neg h ?_; rw [if_neg h]; exact Ev.now _
  rw [if_neg h1]
  refine Ev_neg h1 ?_
  by_cases h2 : x.f0 = 2
  · rw [if_pos h2]; exact Ev_pos h2 (Ev.now _)
  rw [if_neg h2]
  refine Ev_neg h2 ?_
  by_cases h3 : x.f0 = 3
  · rw [if_pos h3]; exact Ev_pos h3 (named_f false l hl _)
  rw [if_neg h3]
  refine Ev_neg h3 ?_
  by_cases h4 : x.f0 = 4
  · rw [if_pos h4]; exact Ev_pos h4 (typed_f l hl _)
  rw [if_neg h4]
  refine Ev_neg h4 (Ev_bindc (kind_f l x.f3 3) ?_)
  cases h : kindS l x.f3 3 with
  | none => exact Ev_neg (show ¬ ((16 : Int) = 0) by omega) (Ev.now _)
  | some y =>
    refine Ev_pos rfl ?_
    simp only
    by_cases h6 : x.f0 = 6
    · rw [if_pos h6]
      refine Ev_pos h6 (Ev.bind (named_f true l hl _) ?_)
      by_cases he : namedS true l x.f4 = 0
      · rw [if_pos he]; exact Ev_pos he (signed_f l hl _)
      · rw [if_neg he]; exact Ev_neg he (Ev.now _)
    · rw [if_neg h6]
      refine Ev_neg h6 (Ev.bind (named_f false l hl _) ?_)
      by_cases he : namedS false l x.f4 = 0
      · rw [if_pos he]; exact Ev_pos he (typed_f l hl _)
      · rw [if_neg he]; exact Ev_neg he (Ev.now _)
def clean (x : En) : Prop := (x.f0 ≠ 1 → LL x.f1 = []) ∧ (x.f0 ≠ 2 → x.f2 = 0) ∧ (x.f0 = 1 ∨ x.f0 = 2 → x.f3 = 0) ∧ (x.f0 ≠ 5 ∧ x.f0 ≠ 6 → x.f4 = 0 ∧ x.f5 = 0)
instance (x : En) : Decidable (clean x) := by unfold clean; exact inferInstance
def wrongS (l : List En) (x : En) : Int := if x.f0 < 1 ∨ 6 < x.f0 then 3 else if clean x then usesS l x else 1
theorem wrong_f (l : List En) (hl : Small l) (x : En) : Ev (fun k => pool_wrong.f k l x.f0 x.f1 x.f2 x.f3 x.f4 x.f5) (wrongS l x) := by
  have hu : ∀ {f : Nat → Option Int}, (∀ k, f k = (pool_uses.f k l x.f0 x.f1 x.f2 x.f3 x.f4 x.f5).bind fun t => some t) → Ev f (usesS l x) := fun {f} hf => by
    rw [show f = fun k => (pool_uses.f k l x.f0 x.f1 x.f2 x.f3 x.f4 x.f5).bind fun t => some t from funext hf]
    exact Ev.bind (uses_f l hl x) (Ev.now _)
  have go : ∀ (b : Bool), (b = true ↔ ¬ clean x) → 1 ≤ x.f0 → x.f0 ≤ 6 → Ev (fun k => if b = true then (some (1 : Int)) else ((pool_uses.f k l x.f0 x.f1 x.f2 x.f3 x.f4 x.f5).bind fun t => (some t))) (wrongS l x) := fun b hb h0 h1 => by
    unfold wrongS
    rw [if_neg (by omega)]
    by_cases hc : clean x
    · rw [if_pos hc]
      exact Ev_neg (fun h => (hb.1 h) hc) (hu fun _ => rfl)
    · rw [if_neg hc]
      exact Ev_pos (hb.2 hc) (Ev.now _)
  unfold pool_wrong.f
  by_cases h1 : x.f0 = 1
  · refine Ev_pos h1 (go _ ?_ (by omega) (by omega))
    simp [clean, h1]
    omega
  refine Ev_neg h1 ?_
  by_cases h2 : x.f0 = 2
  · refine Ev_pos h2 (go _ ?_ (by omega) (by omega))
    simp [clean, h2, toList_LL]
    constructor <;> intro h <;> grind
  refine Ev_neg h2 ?_
  have j1 : ∀ b : Bool, b = decide (x.f0 = 5 ∨ x.f0 = 6) → x.f0 ≠ 3 → x.f0 ≠ 4 → Ev (fun k => pool_wrong.j1 k l b x.f0 x.f1 x.f2 x.f3 x.f4 x.f5 x.f0 ⟨#[]⟩ 0 0 0 0) (wrongS l x) := fun b hb h3 h4 => by
    refine Ev.step (fun k => by rw [pool_wrong.j1]) ?_
    by_cases h56 : x.f0 = 5 ∨ x.f0 = 6
    · rw [hb, decide_eq_true h56]
      refine Ev_pos rfl (go _ ?_ (by omega) (by omega))
      simp [clean, h1, h2, toList_LL, LL]
      grind
    · rw [hb, decide_eq_false h56]
      refine Ev_neg Bool.false_ne_true ?_
      unfold wrongS
      rw [if_pos (by omega)]
      exact Ev.now _
  have j0 : ∀ b : Bool, b = decide (x.f0 = 3 ∨ x.f0 = 4) → Ev (fun k => pool_wrong.j0 k l x.f0 b x.f0 x.f1 x.f2 x.f3 x.f4 x.f5 x.f0 ⟨#[]⟩ 0 0 0 0) (wrongS l x) := fun b hb => by
    refine Ev.step (fun k => by rw [pool_wrong.j0]) ?_
    by_cases h34 : x.f0 = 3 ∨ x.f0 = 4
    · rw [hb, decide_eq_true h34]
      refine Ev_pos rfl (go _ ?_ (by omega) (by omega))
      simp [clean, h1, h2, toList_LL, LL]
      grind
    · rw [hb, decide_eq_false h34]
      refine Ev_neg Bool.false_ne_true ?_
      by_cases h5 : x.f0 = 5
      · exact Ev_pos h5 (j1 _ (by simp [h5]) (by omega) (by omega))
      · exact Ev_neg h5 (j1 _ (by rw [Bool.eq_iff_iff]; simp [h5]) (by omega) (by omega))
  by_cases h3 : x.f0 = 3
  · exact Ev_pos h3 (j0 _ (by simp [h3]))
  · exact Ev_neg h3 (j0 _ (by rw [Bool.eq_iff_iff]; simp [h3]))
end Go.Proofs.YtldejfkplnejjaaDoor.Pure
namespace Go.Proofs.YtldejfkplnejjaaDoor.Pure
open Go.RowKit Go.Proofs.YtldejfkplnejjaaDoor.P Go.Proofs.YtldejfkplnejjaaDoorW.PrintWords
set_option linter.unusedVariables false
def badE (l : List En) : Int → List En → Int × Int
  | _, [] => (0, 0)
  | i, x :: r => if wrongS l x = 0 then badE l (i + 1) r else (i, wrongS l x)
def pcheckS (l : List En) : Int × Int := if 4096 < l.length then (4096, 4) else badE l 0 l
theorem pcheck_l (l : List En) (hl : Small l) (hn : l.length ≤ 4096) : ∀ (c j : Nat), j + c = l.length → Ev (fun k => pool_Check.l0 k l l (l.length : Int) (j : Int)) (badE l (j : Int) (l.drop j))
  | 0, j, hj => by
    rw [List.drop_of_length_le (by omega)]
    refine Ev.step (fun k => by rw [pool_Check.l0]) ?_
    exact Ev_neg (by omega) (Ev.now _)
  | c + 1, j, hj => by
    obtain ⟨x, hx⟩ := at_of (l := l) (j := j) (by omega)
    rw [drop_at hx, badE]
    have ih := pcheck_l l hl hn c (j + 1) (by omega)
    have hw : wrap64 ((j : Int) + 1) = ((j + 1 : Nat) : Int) := by rw [w64] <;> omega
    refine Ev.step (fun k => by rw [pool_Check.l0, hw, rdE (l := l) (i := (j : Int)) (x := x) (by omega) (by simpa using hx)]) (Ev_pos (by omega) (Ev_pos (by omega) (Ev_pos (by omega) (Ev.bind (wrong_f l hl x) ?_))))
    by_cases h : wrongS l x = 0
    · rw [if_pos h]; exact Ev_pos h ih
    · rw [if_neg h]; exact Ev_neg h (Ev.now _)
theorem pcheck_f (l : List En) (hl : Small l) : Ev (fun k => pool_Check.f k l) (pcheckS l) := by
  unfold pool_Check.f pcheckS
  by_cases h : 4096 < l.length
  · rw [if_pos h]; exact Ev_pos (by omega) (Ev.now _)
  · rw [if_neg h]
    have := pcheck_l l hl (by omega) l.length 0 (Nat.zero_add _)
    rw [List.drop_zero] at this
    exact Ev_neg (by omega) this
def AllR (l : List En) : Prop := ∀ x ∈ l, wrongS l x = 0
theorem badE_0 (l : List En) : ∀ (r : List En) (i : Int), (badE l i r).2 = 0 ↔ ∀ x ∈ r, wrongS l x = 0
  | [], _ => by simp [badE]
  | x :: r, i => by
    rw [badE]
    by_cases h : wrongS l x = 0
    · rw [if_pos h, badE_0 l r]; simp [h]
    · rw [if_neg h]; simp [h]
theorem badE_1 (l : List En) : ∀ (r : List En) (i : Int), (badE l i r).2 = 0 → (badE l i r).1 = 0
  | [], _, _ => rfl
  | x :: r, i, h => by
    rw [badE] at h ⊢
    by_cases hw : wrongS l x = 0
    · rw [if_pos hw] at h ⊢; exact badE_1 l r _ h
    · rw [if_neg hw] at h; exact absurd h hw
theorem pcheck_ok {l : List En} (h : (pcheckS l).2 = 0) : AllR l ∧ l.length ≤ 4096 := by
  unfold pcheckS at h
  split at h
  · simp at h
  · exact ⟨(badE_0 l l 0).1 h, by omega⟩
theorem pcheck_of {l : List En} (h : AllR l) (hn : l.length ≤ 4096) : pcheckS l = (0, 0) := by
  unfold pcheckS
  rw [if_neg (by omega)]
  have h0 := (badE_0 l l 0).2 h
  exact Prod.ext (badE_1 l l 0 h0) h0
end Go.Proofs.YtldejfkplnejjaaDoor.Pure
namespace Go.Proofs.YtldejfkplnejjaaDoor.Pure
open Go.RowKit Go.Proofs.YtldejfkplnejjaaDoor.P Go.Proofs.YtldejfkplnejjaaDoorW.PrintWords
set_option linter.unusedVariables false
theorem letterS_d {c : Int} (h : 48 ≤ c ∧ c ≤ 57) : letterS c false = true := by unfold letterS; rw [decide_eq_true h]; simp
theorem rname_l (s : ByteArray) (hs : s.size ≤ 140737488355328) : ∀ (d j : Nat), j + d = s.size →
    Ev (fun k => keystoneref2_Name.l0 k s (j : Int)) (allL (decide (j = 0)) ((LL s).drop j))
  | 0, j, hj => by
    refine Ev.step (fun k => by rw [keystoneref2_Name.l0]) (Ev_neg (by omega) ?_)
    rw [List.drop_of_length_le (by rw [LL_length]; omega)]
    exact Ev.now _
  | d + 1, j, hj => by
    obtain ⟨c, hc⟩ := at_of (l := LL s) (j := j) (by rw [LL_length]; omega)
    rw [drop_at hc, allL]
    have hb := bt_of hc
    have ih := rname_l s hs d (j + 1) (by omega)
    rw [show decide (j + 1 = 0) = false by simp] at ih
    generalize (c.toNat : Int) = b at hb
    refine Ev.step (fun k => by rw [keystoneref2_Name.l0, hb, show wrap64 ((j : Int) + 1) = ((j + 1 : Nat) : Int) by rw [w64] <;> omega]) (Ev_pos (by omega) (Ev_pos (by omega) ?_))
    by_cases h : (97 ≤ b ∧ b ≤ 122) ∨ (65 ≤ b ∧ b ≤ 90) ∨ b = 95
    · rw [letterS_t h, Bool.true_and]
      refine Ev_ite (fun h1 => Ev_ite (fun h2 => ih) (fun h2 => Ev_ite (fun h3 => Ev_ite (fun h4 => ih) (fun h4 => ?_)) (fun h3 => Ev_pos (by omega) ih))) (fun h1 => Ev_ite (fun h3 => Ev_ite (fun h4 => ih) (fun h4 => ?_)) (fun h3 => Ev_pos (by omega) ih))
      all_goals exfalso; omega
    · have rest : Ev (fun k => if b ≥ 48 then (if b ≤ 57 then (if (j : Int) > 0 then (keystoneref2_Name.l0 k s ((j + 1 : Nat) : Int)) else (some false)) else (some false)) else (some false)) (letterS b (decide (j = 0)) && allL false ((LL s).drop (j + 1))) := by
        by_cases hd : 48 ≤ b ∧ b ≤ 57
        · refine Ev_pos hd.1 (Ev_pos hd.2 ?_)
          by_cases h0 : j = 0
          · rw [decide_eq_true h0, letterS_n h (.inl rfl)]; exact Ev_neg (by omega) (Ev.now _)
          · rw [decide_eq_false h0, letterS_d hd, Bool.true_and]; exact Ev_pos (by omega) ih
        · rw [letterS_n h (.inr hd)]
          refine Ev_ite (fun h1 => Ev_neg (by omega) (Ev.now _)) (fun h1 => Ev.now _)
      refine Ev_ite (fun h1 => Ev_neg (by omega) (Ev_ite (fun h3 => Ev_neg (by omega) (Ev_neg (by omega) rest)) (fun h3 => Ev_neg (by omega) rest))) (fun h1 => Ev_ite (fun h3 => Ev_neg (by omega) (Ev_neg (by omega) rest)) (fun h3 => Ev_neg (by omega) rest))
theorem rname_j (s : ByteArray) (b : Bool) (hs : s.size ≤ 140737488355328) : Ev (fun k => keystoneref2_Name.j0 k s b) (if b = true then false else allL true (LL s)) := by
  refine Ev.step (fun k => by rw [keystoneref2_Name.j0]) ?_
  cases b with
  | true => exact Ev_pos rfl (Ev.now _)
  | false =>
    refine Ev_neg Bool.false_ne_true ?_
    have h := rname_l s hs s.size 0 (Nat.zero_add _)
    rwa [show decide (0 = 0) = true from rfl, List.drop_zero] at h
theorem rname_f (s : ByteArray) (hs : s.size ≤ 140737488355328) : Ev (fun k => keystoneref2_Name.f k s) (nm s) := by
  unfold keystoneref2_Name.f nm nmL
  rw [LL_length]
  by_cases h : (s.size : Int) < 1
  · have e : LL s = [] := List.length_eq_zero_iff.1 (by rw [LL_length]; omega)
    have := rname_j s true hs
    rw [if_pos rfl] at this
    rw [e, show (decide (([] : List UInt8) ≠ [])) = false from rfl, Bool.false_and, Bool.and_false]
    exact Ev_pos h this
  refine Ev_neg h ?_
  have hne : LL s ≠ [] := fun e => by have := LL_length s; rw [e] at this; simp at this; omega
  have := rname_j s (decide ((s.size : Int) > 32)) hs
  refine cast (congrArg _ ?_) this
  rw [decide_eq_true hne, Bool.true_and]
  by_cases h2 : (s.size : Int) > 32
  · rw [decide_eq_true h2, if_pos rfl, decide_eq_false (by omega), Bool.and_false]
  · rw [decide_eq_false h2, if_neg Bool.false_ne_true, decide_eq_true (by omega), Bool.and_true]
theorem semi_le (l : List UInt8) : semi l ≤ l.length := (List.takeWhile_sublist _).length_le
theorem takeWhile_all {p : UInt8 → Bool} : ∀ {l : List UInt8} {j : Nat}, j < (l.takeWhile p).length → ∃ c, l[j]? = some c ∧ p c = true
  | [], j, h => by simp at h
  | a :: l, j, h => by
    by_cases ha : p a = true
    · rw [List.takeWhile_cons_of_pos (p := p) ha, List.length_cons] at h
      cases j with
      | zero => exact ⟨a, rfl, ha⟩
      | succ j => exact takeWhile_all (l := l) (j := j) (by omega)
    · rw [List.takeWhile_cons_of_neg (p := p) ha] at h; simp at h
theorem takeWhile_end {p : UInt8 → Bool} : ∀ {l : List UInt8} {c : UInt8}, l[(l.takeWhile p).length]? = some c → p c = false
  | [], c, h => by simp at h
  | a :: l, c, h => by
    by_cases ha : p a = true
    · rw [List.takeWhile_cons_of_pos (p := p) ha, List.length_cons, List.getElem?_cons_succ] at h
      exact takeWhile_end (l := l) h
    · rw [List.takeWhile_cons_of_neg (p := p) ha] at h
      simp at h; subst h; simpa using ha
theorem brk_91 (t : List UInt8) : brk (91 :: t) = brk t + 1 := by unfold brk; rw [List.takeWhile_cons_of_pos (p := (· == (91 : UInt8))) rfl]; rfl
theorem brk_no {c : UInt8} (h : c ≠ 91) (t : List UInt8) : brk (c :: t) = 0 := by unfold brk; rw [List.takeWhile_cons_of_neg (p := (· == (91 : UInt8))) (by simpa using h)]; rfl
theorem u8_eq {c : UInt8} {n : Nat} (hn : n < 256) : ((c.toNat : Int) = (n : Int)) ↔ c = UInt8.ofNat n := by
  constructor
  · intro h
    apply UInt8.toNat_inj.1
    rw [UInt8.toNat_ofNat']
    omega
  · rintro rfl
    rw [UInt8.toNat_ofNat']
    omega
theorem semi_at (t : List UInt8) (h : semi t < t.length) : t[semi t]? = some 59 := by
  obtain ⟨c, hc⟩ := at_of (l := t) h
  have := takeWhile_end (p := (· != (59 : UInt8))) (l := t) (c := c) hc
  rw [hc]; simp at this; rw [this]
theorem first_rest {l : List UInt8} {n : Nat} {m r : List UInt8} (h : firstL l = some (n, m, r)) : ∃ p, p ++ r = l := by
  unfold firstL at h
  split at h
  · cases h
  · split at h
    · cases h
    · rename_i c t hd
      have hl : l = l.take (brk l) ++ c :: t := by rw [← hd, List.take_append_drop]
      split at h
      · simp only [Option.some.injEq, Prod.mk.injEq] at h
        obtain ⟨rfl, rfl, rfl⟩ := h
        exact ⟨l.take (brk l) ++ [c], by rw [List.append_assoc]; exact hl.symm⟩
      · split at h
        · split at h
          · simp only [Option.some.injEq, Prod.mk.injEq] at h
            obtain ⟨rfl, rfl, rfl⟩ := h
            refine ⟨l.take (brk l) ++ c :: t.take (semi t + 1), ?_⟩
            rw [List.append_assoc, List.cons_append, List.take_append_drop]
            exact hl.symm
          · cases h
        · cases h
def firstN (n : Nat) (l : List UInt8) : Option (Nat × List UInt8 × List UInt8) :=
  if 8 < n + brk l then none else match l.drop (brk l) with
    | [] => none
    | c :: t => if c = 73 then some (n + brk l, [], t) else if c = 76 then (if semi t < t.length ∧ nmL (t.take (semi t)) = true then some (n + brk l, t.take (semi t), t.drop (semi t + 1)) else none) else none
theorem firstN_0 (l : List UInt8) : firstN 0 l = firstL l := by unfold firstN firstL; first | (simp only [Nat.zero_add]; done) | (simp only [Nat.zero_add]; rfl)
theorem firstN_91 (n : Nat) (t : List UInt8) : firstN n (91 :: t) = firstN (n + 1) t := by
  unfold firstN
  rw [brk_91, List.drop_succ_cons, show n + (brk t + 1) = n + 1 + brk t by omega]
def oneR (g : Int × ByteArray) (size : Nat) : Option (Nat × List UInt8 × List UInt8) → Int × ByteArray × Int
  | none => (g.1, g.2, -1)
  | some (n, m, r) => ((n : Int), BA m, ((size - r.length : Nat) : Int))
theorem scan_l (s : ByteArray) (hs : s.size ≤ 140737488355328) (a : Nat) (x : Int) (y : ByteArray) : ∀ (d e : Nat), e + d = semi ((LL s).drop (a + 1)) → a + 1 + semi ((LL s).drop (a + 1)) ≤ s.size →
    Ev (fun k => keystoneref2_one.l1 k s (a : Int) ((a + 1 + e : Nat) : Int) x y) (if semi ((LL s).drop (a + 1)) < ((LL s).drop (a + 1)).length ∧ nmL (((LL s).drop (a + 1)).take (semi ((LL s).drop (a + 1)))) = true then (x, BA (((LL s).drop (a + 1)).take (semi ((LL s).drop (a + 1)))), ((a + 1 + semi ((LL s).drop (a + 1)) + 1 : Nat) : Int)) else (x, y, -1)) 
  | 0, e, he, hle => by
    have hl := LL_length s
    have hdl : ((LL s).drop (a + 1)).length = s.size - (a + 1) := by rw [List.length_drop, hl]
    generalize ht : (LL s).drop (a + 1) = t at he hle hdl
    have hw : wrap64 ((a : Int) + 1) = ((a + 1 : Nat) : Int) := by rw [w64] <;> omega
    refine Ev.step (fun k => by rw [keystoneref2_one.l1, hw]) ?_
    by_cases h : semi t < t.length
    · have h59 : (LL s)[a + 1 + e]? = some 59 := by
        have := semi_at t h
        rw [← ht, List.getElem?_drop] at this
        rw [← ht] at he
        rwa [show a + 1 + e = a + 1 + semi ((LL s).drop (a + 1)) by omega]
      have hbt := bt_of h59
      have hex : s.extract (((a + 1 : Nat) : Int)).toNat (((a + 1 + e : Nat) : Int)).toNat = BA (t.take (semi t)) := by
        refine BA_eq ?_
        rw [LL_extract, Int.toNat_natCast, Int.toNat_natCast, ← ht]
        rw [← ht] at he
        rw [List.drop_take]
        congr 1
        omega
      rw [hex]
      refine Ev_pos (by omega) (Ev_pos (by omega) (Ev_pos (by rw [hbt]; rfl) (Ev_neg (by omega) (Ev_pos (by omega) (Ev_pos (by omega) (Ev_pos (by omega) (Ev.bind (rname_f _ (by rw [BA_size, List.length_take]; omega)) ?_)))))))
      have hnm : nm (BA (t.take (semi t))) = nmL (t.take (semi t)) := by unfold nm; rw [LL_BA]
      rw [hnm]
      by_cases h4 : nmL (t.take (semi t)) = true
      · refine Ev_pos h4 ?_
        rw [if_pos ⟨h, h4⟩, show wrap64 (((a + 1 + e : Nat) : Int) + 1) = ((a + 1 + semi t + 1 : Nat) : Int) by rw [w64] <;> omega]
        exact Ev.now _
      · refine Ev_neg h4 ?_
        rw [if_neg (fun hh => h4 hh.2)]
        exact Ev.now _
    · have hs2 := semi_le t
      refine Ev_neg (by omega) (Ev_pos (by omega) ?_)
      rw [if_neg (fun hh => h hh.1)]
      exact Ev.now _
  | d + 1, e, he, hle => by
    have hl := LL_length s
    have hdl : ((LL s).drop (a + 1)).length = s.size - (a + 1) := by rw [List.length_drop, hl]
    have ih := scan_l s hs a x y d (e + 1) (by omega) hle
    obtain ⟨c, hc, hp⟩ := takeWhile_all (p := (· != (59 : UInt8))) (l := (LL s).drop (a + 1)) (j := e) (by unfold semi at he; omega)
    have hs2 := semi_le ((LL s).drop (a + 1))
    rw [List.getElem?_drop] at hc
    have hbt := bt_of hc
    have hne : ¬ ((c.toNat : Int) = 59) := fun h => by
      have := (u8_eq (c := c) (n := 59) (by omega)).1 h
      subst this
      simp at hp
    refine Ev.step (fun k => by rw [keystoneref2_one.l1, hbt]) (Ev_pos (by omega) (Ev_pos (by omega) (Ev_neg hne ?_)))
    rw [show wrap64 (((a + 1 + e : Nat) : Int) + 1) = ((a + 1 + (e + 1) : Nat) : Int) by rw [w64] <;> omega]
    exact ih
theorem one_j (s : ByteArray) (hs : s.size ≤ 140737488355328) (a n : Nat) (hn : n ≤ 140737488355328) (ha : a ≤ s.size) (h0 : brk ((LL s).drop a) = 0) :
    ∃ g, Ev (fun k => keystoneref2_one.j1 k s (a : Int) (n : Int) ⟨#[]⟩) (oneR g s.size (firstN n ((LL s).drop a))) := by
  refine ⟨((n : Int), ⟨#[]⟩), ?_⟩
  have hl := LL_length s
  have hdl : ((LL s).drop a).length = s.size - a := by rw [List.length_drop, hl]
  have bad : Ev (fun k => keystoneref2_one.j2 k s (a : Int) true (n : Int) ⟨#[]⟩) (((n : Int), ⟨#[]⟩, -1) : Int × ByteArray × Int) := by
    refine Ev.step (fun k => by rw [keystoneref2_one.j2]) ?_
    exact Ev_pos rfl (Ev.now _)
  refine Ev.step (fun k => by rw [keystoneref2_one.j1]) ?_
  unfold firstN
  rw [h0, Nat.add_zero, List.drop_zero]
  by_cases h8 : 8 < n
  · rw [if_pos h8]; exact Ev_pos (by omega) bad
  rw [if_neg h8]
  refine Ev_neg (by omega) ?_
  by_cases hsz : a = s.size
  · rw [decide_eq_true (by omega)]
    have e : (LL s).drop a = [] := List.length_eq_zero_iff.1 (by omega)
    rw [e]
    exact bad
  rw [decide_eq_false (by omega)]
  obtain ⟨c, hc⟩ := at_of (l := LL s) (j := a) (by omega)
  have hd := drop_at hc
  have hbt := bt_of hc
  rw [hd]
  refine Ev.step (fun k => by rw [keystoneref2_one.j2, hbt]) (Ev_neg Bool.false_ne_true (Ev_pos (by omega) (Ev_pos (by omega) ?_)))
  simp only
  have hw : wrap64 ((a : Int) + 1) = ((a + 1 : Nat) : Int) := by rw [w64] <;> omega
  by_cases h1 : c = 73
  · subst h1
    rw [if_pos rfl]
    refine Ev_pos rfl (Ev_const ?_)
    rw [hw]
    simp only [oneR, List.length_drop, hl]
    rw [show s.size - (s.size - (a + 1)) = a + 1 by omega]; rfl
  rw [if_neg h1]
  refine Ev_neg (fun h => h1 ((u8_eq (n := 73) (by omega)).1 h)) ?_
  by_cases h2 : c = 76
  · subst h2
    rw [if_pos rfl]
    refine Ev_pos rfl ?_
    rw [hw]
    have hsm := semi_le ((LL s).drop (a + 1))
    have hdl2 : ((LL s).drop (a + 1)).length = s.size - (a + 1) := by rw [List.length_drop, hl]
    have := scan_l s hs a (n : Int) ⟨#[]⟩ _ 0 (Nat.zero_add _) (by omega)
    rw [Nat.add_zero] at this
    refine cast (congrArg _ ?_) this
    split
    · rename_i hh
      simp only [oneR, List.length_drop, hl]
      rw [show s.size - (s.size - (a + 1) - (semi ((LL s).drop (a + 1)) + 1)) = a + 1 + semi ((LL s).drop (a + 1)) + 1 by omega]
    · rfl
  · rw [if_neg h2]
    exact Ev_neg (fun h => h2 ((u8_eq (n := 76) (by omega)).1 h)) (Ev.now _)
theorem one_l (s : ByteArray) (hs : s.size ≤ 140737488355328) : ∀ (d a n : Nat), a + d = s.size → n ≤ a →
    ∃ g, Ev (fun k => keystoneref2_one.l0 k s (a : Int) (n : Int) ⟨#[]⟩) (oneR g s.size (firstN n ((LL s).drop a)))
  | 0, a, n, ha, hn => by
    have hl := LL_length s
    obtain ⟨g, hg⟩ := one_j s hs a n (by omega) (by omega) (by rw [List.drop_of_length_le (by omega)]; rfl)
    exact ⟨g, Ev.step (fun k => by rw [keystoneref2_one.l0]) (Ev_neg (by omega) hg)⟩
  | d + 1, a, n, ha, hn => by
    have hl := LL_length s
    obtain ⟨c, hc⟩ := at_of (l := LL s) (j := a) (by omega)
    have hd := drop_at hc
    have hbt := bt_of hc
    by_cases h : c = 91
    · obtain ⟨g, hg⟩ := one_l s hs d (a + 1) (n + 1) (by omega) (by omega)
      refine ⟨g, Ev.step (fun k => by rw [keystoneref2_one.l0, hbt]) (Ev_pos (by omega) (Ev_pos (by omega) (Ev_pos (by rw [h]; rfl) ?_)))⟩
      rw [show wrap64 ((a : Int) + 1) = ((a + 1 : Nat) : Int) by rw [w64] <;> omega, show wrap64 ((n : Int) + 1) = ((n + 1 : Nat) : Int) by rw [w64] <;> omega, hd, h, firstN_91]
      exact hg
    · obtain ⟨g, hg⟩ := one_j s hs a n (by omega) (by omega) (by rw [hd]; exact brk_no h _)
      refine ⟨g, Ev.step (fun k => by rw [keystoneref2_one.l0, hbt]) ?_⟩
      exact Ev_pos (by omega) (Ev_pos (by omega) (Ev_neg (fun e => h ((u8_eq (n := 91) (by omega)).1 e)) hg))
theorem one_f (s : ByteArray) (hs : s.size ≤ 140737488355328) (a : Nat) (ha : a ≤ s.size) : ∃ g, Ev (fun k => keystoneref2_one.f k s (a : Int)) (oneR g s.size (firstL ((LL s).drop a))) := by
  unfold keystoneref2_one.f
  rw [← firstN_0]
  exact one_l s hs (s.size - a) a 0 (by omega) (by omega)
theorem rtype_f (s : ByteArray) (hs : s.size ≤ 140737488355328) : Ev (fun k => keystoneref2_Type.f k s) (typeL (LL s)) := by
  unfold keystoneref2_Type.f typeL
  obtain ⟨g, hg⟩ := one_f s hs 0 (by omega)
  rw [List.drop_zero] at hg
  have hl := LL_length s
  refine Ev.bind hg ?_
  cases h : firstL (LL s) with
  | none => exact Ev_neg (show ¬ ((-1 : Int) = (s.size : Int)) by omega) (Ev.now _)
  | some q =>
    obtain ⟨n, m, r⟩ := q
    obtain ⟨h1, h2, h3⟩ := first_len h
    cases r with
    | nil => exact Ev_pos (show (((s.size - ([] : List UInt8).length : Nat) : Int) = (s.size : Int)) by simp) (Ev.now _)
    | cons x r => exact Ev_neg (show ¬ (((s.size - (x :: r).length : Nat) : Int) = (s.size : Int)) by simp only [List.length_cons] at h1 ⊢; omega) (Ev.now _)
theorem rsig_l : ∀ (f : Nat) (acc : List Ty) (s : ByteArray) (a : Nat), s.size ≤ a + f → a ≤ s.size → s.size ≤ 1000000000000 → acc.length + s.size ≤ 1000000000000 + a → Ev (fun k => keystoneref2_Sig.l0 k s (a : Int) acc false 0 ⟨#[]⟩) (sigP f acc ((LL s).drop a))
  | f, acc, s, a, hf, ha, hs, hacc => by
    have hl := LL_length s
    have hdl : ((LL s).drop a).length = s.size - a := by rw [List.length_drop, hl]
    have hw : wrap64 ((a : Int) + 1) = ((a + 1 : Nat) : Int) := by rw [w64] <;> omega
    refine Ev.step (fun k => by rw [keystoneref2_Sig.l0]) ?_
    match hu : (LL s).drop a, f with
    | [], f =>
      rw [hu] at hdl
      simp only [List.length_nil] at hdl
      refine Ev_neg (by omega) (Ev.step (fun k => by rw [keystoneref2_Sig.j2]) (Ev_neg Bool.false_ne_true (Ev_pos (by omega) ?_)))
      cases f <;> exact Ev.now _
    | c :: t, 0 => rw [hu] at hdl; simp at hdl; omega
    | c :: t, f + 1 =>
      rw [hu] at hdl
      simp only [List.length_cons] at hdl
      have hc : (LL s)[a]? = some c := by
        have : ((LL s).drop a)[0]? = some c := by rw [hu]; rfl
        rw [List.getElem?_drop] at this
        exact this
      have hd := drop_at hc
      rw [hu] at hd
      have ht : t = (LL s).drop (a + 1) := by injection hd
      have hbt := bt_of hc
      refine Ev_pos (by omega) (Ev_pos (by omega) ?_)
      by_cases h41 : c = 41
      · have e : (bt s (a : Int) != 41) = false := by rw [hbt, h41]; rfl
        rw [e]
        refine Ev.step (fun k => by rw [keystoneref2_Sig.j2, hw]) (Ev_neg Bool.false_ne_true (Ev_neg (by omega) (Ev_pos (by omega) (Ev_pos (by omega) ?_))))
        have hx : s.extract (((a + 1 : Nat) : Int)).toNat s.size = BA t := by rw [Int.toNat_natCast, extract_BA, ← ht]
        rw [hx]
        simp only [sigP]
        rw [if_pos h41]
        unfold sigE
        by_cases hv : t = [86]
        · rw [if_pos hv]
          refine Ev_pos (by rw [toList_LL, LL_BA]; exact hv) ?_
          by_cases h16 : 16 < acc.length
          · exact Ev_pos (by omega) (by rw [if_pos h16]; exact Ev.now _)
          · exact Ev_neg (by omega) (by rw [if_neg h16]; exact Ev.now _)
        · rw [if_neg hv]
          refine Ev_neg (by rw [toList_LL, LL_BA]; exact hv) (Ev.bind (rtype_f _ (by rw [BA_size]; omega)) ?_)
          rw [LL_BA]
          unfold typeL
          cases hfl : firstL t with
          | none => exact Ev_neg (by simp) (Ev.now _)
          | some q =>
            obtain ⟨n, m, r⟩ := q
            cases r with
            | nil =>
              refine Ev_pos rfl ?_
              by_cases h16 : 16 < acc.length
              · exact Ev_pos (by omega) (by simp only; rw [if_pos h16]; exact Ev.now _)
              · exact Ev_neg (by omega) (by simp only; rw [if_neg h16]; exact Ev.now _)
            | cons x r => exact Ev_neg (by simp) (Ev.now _)
      · have e : (bt s (a : Int) != 41) = true := by
          rw [hbt]
          simp only [bne_iff_ne, ne_eq]
          exact fun h => h41 ((u8_eq (n := 41) (by omega)).1 h)
        rw [e]
        obtain ⟨g, hg⟩ := one_f s (by omega) a ha
        rw [hu] at hg
        refine Ev.step (fun k => by rw [keystoneref2_Sig.j2]) (Ev_pos rfl (Ev.bind hg ?_))
        simp only [sigP]
        rw [if_neg h41]
        cases hfl : firstL (c :: t) with
        | none => exact Ev_pos (show (-1 : Int) < 0 by omega) (Ev.now _)
        | some q =>
          obtain ⟨n, m, r⟩ := q
          obtain ⟨h1, h2, h3⟩ := first_len hfl
          have hr := first_rest hfl
          simp only [List.length_cons] at h1
          refine Ev_neg (show ¬ (((s.size - r.length : Nat) : Int) < 0) by omega) (Ev_pos (by omega) ?_)
          have ih := rsig_l f (acc ++ [⟨(n : Int), BA m⟩]) s (s.size - r.length) (by omega) (by omega) hs (by simp; omega)
          have e2 : (LL s).drop (s.size - r.length) = r := by
            obtain ⟨p, hp⟩ := hr
            have e3 : LL s = ((LL s).take a ++ p) ++ r := by rw [List.append_assoc, hp, ← hu, List.take_append_drop]
            have e4 : s.size - r.length = ((LL s).take a ++ p).length := by
              have := congrArg List.length e3
              rw [List.length_append, hl] at this
              omega
            rw [e4]
            exact (congrArg (List.drop _) e3).trans List.drop_left
          rw [e2] at ih
          exact ih
theorem rsig_f (s : ByteArray) (hs : s.size ≤ 1000000000000) : Ev (fun k => keystoneref2_Sig.f k s) (sigS (LL s)) := by
  unfold keystoneref2_Sig.f
  have hl := LL_length s
  cases hu : LL s with
  | nil =>
    refine Ev_pos (by rw [toList_LL, hu]) (Ev.step (fun k => by rw [keystoneref2_Sig.j0]) ?_)
    exact Ev_pos rfl (Ev.now _)
  | cons c t =>
    rw [hu] at hl
    simp only [List.length_cons] at hl
    have hc : (LL s)[0]? = some c := by rw [hu]; rfl
    have hbt : bt s 0 = (c.toNat : Int) := bt_of hc
    refine Ev_neg (by rw [toList_LL, hu]; simp) (Ev_pos (by omega) ?_)
    by_cases h : c = 40
    · have e : (bt s 0 != 40) = false := by rw [hbt, h]; rfl
      rw [e]
      refine Ev.step (fun k => by rw [keystoneref2_Sig.j0]) (Ev_neg Bool.false_ne_true ?_)
      have := rsig_l t.length [] s 1 (by omega) (by omega) hs (by simp; omega)
      rw [hu, h] at *
      exact this
    · have e : (bt s 0 != 40) = true := by
        rw [hbt]
        simp only [bne_iff_ne, ne_eq]
        exact fun h' => h ((u8_eq (n := 40) (by omega)).1 h')
      rw [e]
      refine Ev.step (fun k => by rw [keystoneref2_Sig.j0]) (Ev_pos rfl ?_)
      have e : sigS (c :: t) = ([], false, 0, ⟨#[]⟩, 15) := by
        unfold sigS
        split
        · rename_i h2; simp at h2; exact absurd h2.1 h
        · rfl
      rw [e]
      exact Ev.now _
theorem rmethod_f (s : ByteArray) (hs : s.size ≤ 140737488355328) : Ev (fun k => keystoneref2_Method.f k s) (mth s) := by
  unfold keystoneref2_Method.f mth
  by_cases h : isInit s
  · rw [if_pos h]; exact Ev_pos h (Ev.now _)
  · rw [if_neg h]; exact Ev_neg h (Ev.bind (rname_f s hs) (Ev.now _))
end Go.Proofs.YtldejfkplnejjaaDoor.Pure
namespace Go.Proofs.YtldejfkplnejjaaDoor.Pure
open Go.RowKit Go.Proofs.YtldejfkplnejjaaDoor.P Go.Proofs.YtldejfkplnejjaaDoorW.PrintWords
set_option linter.unusedVariables false
theorem kindS_at {l : List En} {i w : Int} (h0 : 0 ≤ i) (h1 : i < l.length) : kindS l i w = if (rd_T50 l i).f0 = w then some (rd_T50 l i) else none := by
  obtain ⟨x, hx⟩ := at_of (l := l) (j := i.toNat) (by omega)
  unfold kindS
  rw [rdE h0 hx, if_pos h0, hx]
theorem ris_f (l : List En) (i w : Int) : keystoneref3_is.f l i w = some (kindS l i w).isSome := by
  unfold keystoneref3_is.f
  by_cases h0 : i ≥ 0
  · rw [if_pos h0]
    by_cases h1 : i < (l.length : Int)
    · rw [if_pos h1, if_pos h0, kindS_at h0 h1]
      by_cases h : (rd_T50 l i).f0 = w
      · rw [if_pos h]; simp [h]
      · rw [if_neg h]; simp [h]
    · rw [if_neg h1]; unfold kindS; rw [if_pos h0, List.getElem?_eq_none (by omega)]; rfl
  · rw [if_neg h0]; unfold kindS; rw [if_neg h0]; rfl
def rtextS (l : List En) (i w : Int) : Int := if w = 1 then namedS false l i else if w = 2 then namedS true l i else if w = 3 then typedS l i else signedS l i
theorem rtext_f (l : List En) (hl : Small l) (i w : Int) (hw : w = 1 ∨ w = 2 ∨ w = 3 ∨ w = 4) : Ev (fun k => keystoneref3_text.f k l i w) (rtextS l i w) := by
  unfold keystoneref3_text.f
  refine Ev_bindc (ris_f l i 1) ?_
  cases h : kindS l i 1 with
  | none =>
    refine Ev_neg (by simp) ?_
    rw [show rtextS l i w = 16 by unfold rtextS namedS typedS signedS; rw [h]; simp]
    exact Ev.now _
  | some x =>
    obtain ⟨hm, h0, h1, hx, _⟩ := kindS_in h
    have hs := hl x hm
    refine Ev_pos rfl (Ev_pos h0 (Ev_pos h1 ?_))
    rw [rdE h0 hx]
    unfold rtextS namedS typedS signedS
    rw [h]
    simp only
    have hn : ∀ (f : Nat → Option Bool) (b : Bool), Ev f b → Ev (fun k => (f k).bind fun t => if t = true then some (0 : Int) else some 14) (if b = true then 0 else 14) := fun f b hb => by
      refine Ev.bind hb ?_
      cases b with
      | true => exact Ev_pos rfl (Ev.now _)
      | false => exact Ev_neg Bool.false_ne_true (Ev.now _)
    by_cases w1 : w = 1
    · rw [if_pos w1]; exact Ev_pos w1 (by simpa using hn _ _ (rname_f x.f1 (by omega)))
    refine Ev_neg w1 ?_
    rw [if_neg w1]
    by_cases w2 : w = 2
    · rw [if_pos w2]; exact Ev_pos w2 (by simpa using hn _ _ (rmethod_f x.f1 (by omega)))
    refine Ev_neg w2 ?_
    rw [if_neg w2]
    by_cases w3 : w = 3
    · rw [if_pos w3]; exact Ev_pos w3 (Ev.bind (rtype_f x.f1 (by omega)) (Ev.now _))
    refine Ev_neg w3 ?_
    rw [if_neg w3]
    exact Ev_pos (by omega) (Ev.bind (rsig_f x.f1 (by omega)) (Ev.now _))
theorem rwrong_j3 (l : List En) (hl : Small l) (x : En) (m : Bool) : Ev (fun k => keystoneref3_Wrong.j3 k l (if m = true then 2 else 1) (if m = true then 4 else 3) x.f0 x.f1 x.f2 x.f3 x.f4 x.f5) (if namedS m l x.f4 = 0 then (if m = true then signedS l x.f5 else typedS l x.f5) else namedS m l x.f4) := by
  refine Ev.step (fun k => by rw [keystoneref3_Wrong.j3]) ?_
  have h1 := rtext_f l hl x.f4 (if m = true then 2 else 1) (by cases m <;> simp)
  have h2 := rtext_f l hl x.f5 (if m = true then 4 else 3) (by cases m <;> simp)
  have e1 : rtextS l x.f4 (if m = true then 2 else 1) = namedS m l x.f4 := by cases m <;> simp [rtextS]
  have e2 : rtextS l x.f5 (if m = true then 4 else 3) = if m = true then signedS l x.f5 else typedS l x.f5 := by cases m <;> simp [rtextS]
  rw [e1] at h1
  rw [e2] at h2
  refine Ev.bind h1 ?_
  by_cases h : namedS m l x.f4 = 0
  · rw [if_pos h]; exact Ev_pos h (Ev.bind h2 (Ev.now _))
  · rw [if_neg h]; exact Ev_neg h (Ev.now _)
theorem rwrong_j2 (l : List En) (hl : Small l) (x : En) (b : Bool) (hb : b = decide (x.f0 = 5 ∨ x.f0 = 6)) (h1 : x.f0 ≠ 1) (h3 : x.f0 ≠ 3) (h4 : x.f0 ≠ 4) (h0 : 1 ≤ x.f0 ∧ x.f0 ≤ 6) : Ev (fun k => keystoneref3_Wrong.j2 k l x.f0 b x.f0 x.f1 x.f2 x.f3 x.f4 x.f5) (usesS l x) := by
  refine Ev.step (fun k => by rw [keystoneref3_Wrong.j2]) ?_
  unfold usesS
  rw [if_neg h1]
  by_cases h2 : x.f0 = 2
  · rw [if_pos h2, hb, decide_eq_false (by omega)]; exact Ev_neg Bool.false_ne_true (Ev.now _)
  rw [if_neg h2, if_neg h3, if_neg h4, hb, decide_eq_true (by omega)]
  refine Ev_pos rfl (Ev_bindc (ris_f l x.f3 3) ?_)
  cases h : kindS l x.f3 3 with
  | none => exact Ev_neg (by simp) (Ev.now _)
  | some c =>
    refine Ev_pos rfl ?_
    simp only
    by_cases h6 : x.f0 = 6
    · rw [if_pos h6]; exact Ev_pos h6 (by simpa using rwrong_j3 l hl x true)
    · rw [if_neg h6]; exact Ev_neg h6 (by simpa using rwrong_j3 l hl x false)
theorem rwrong_j1 (l : List En) (hl : Small l) (x : En) (h0 : 1 ≤ x.f0 ∧ x.f0 ≤ 6) (y : Bool) (hy : y = true ↔ ¬ clean x) : Ev (fun k => keystoneref3_Wrong.j1 k l x.f0 y x.f0 x.f1 x.f2 x.f3 x.f4 x.f5) (wrongS l x) := by
  refine Ev.step (fun k => by rw [keystoneref3_Wrong.j1]) ?_
  have e : wrongS l x = if clean x then usesS l x else 1 := by unfold wrongS; rw [if_neg (by omega)]
  rw [e]
  by_cases hc : clean x
  · rw [if_pos hc]
    refine Ev_neg (fun h => (hy.1 h) hc) ?_
    by_cases h1 : x.f0 = 1
    · have e : usesS l x = if (x.f1.size : Int) > 255 then 5 else 0 := by unfold usesS; rw [if_pos h1]
      rw [e]
      exact Ev_pos h1 (Ev_ite (fun h => by rw [if_pos h]; exact Ev.now _) (fun h => by rw [if_neg h]; exact Ev.now _))
    refine Ev_neg h1 ?_
    by_cases h3 : x.f0 = 3
    · have e : usesS l x = namedS false l x.f3 := by unfold usesS; rw [if_neg h1, if_neg (by omega), if_pos h3]
      rw [e]
      exact Ev_pos h3 (Ev.bind (by simpa [rtextS] using rtext_f l hl x.f3 1 (by simp)) (Ev.now _))
    refine Ev_neg h3 ?_
    by_cases h4 : x.f0 = 4
    · have e : usesS l x = typedS l x.f3 := by unfold usesS; rw [if_neg h1, if_neg (by omega), if_neg h3, if_pos h4]
      rw [e]
      exact Ev_pos h4 (Ev.bind (by simpa [rtextS] using rtext_f l hl x.f3 3 (by simp)) (Ev.now _))
    refine Ev_neg h4 ?_
    by_cases h5 : x.f0 = 5
    · exact Ev_pos h5 (rwrong_j2 l hl x _ (by simp [h5]) h1 h3 h4 h0)
    · exact Ev_neg h5 (rwrong_j2 l hl x _ (by rw [Bool.eq_iff_iff]; simp [h5]) h1 h3 h4 h0)
  · rw [if_neg hc]; exact Ev_pos (hy.2 hc) (Ev.now _)
theorem rwrong_j0 (l : List En) (hl : Small l) (x : En) (b : Bool) (hb : b = decide (x.f0 < 1 ∨ 6 < x.f0)) : Ev (fun k => keystoneref3_Wrong.j0 k l x.f0 b x.f0 x.f1 x.f2 x.f3 x.f4 x.f5) (wrongS l x) := by
  refine Ev.step (fun k => by rw [keystoneref3_Wrong.j0]) ?_
  by_cases h : x.f0 < 1 ∨ 6 < x.f0
  · rw [hb, decide_eq_true h]
    unfold wrongS
    rw [if_pos h]
    exact Ev_pos rfl (Ev.now _)
  rw [hb, decide_eq_false h]
  refine Ev_neg Bool.false_ne_true ?_
  have h0 : 1 ≤ x.f0 ∧ x.f0 ≤ 6 := by omega
  have go := rwrong_j1 l hl x h0
  have hc : clean x ↔ (x.f0 ≠ 1 → x.f1.toList = ([] : List UInt8)) ∧ (x.f0 ≠ 2 → x.f2 = 0) ∧ (x.f0 < 3 → x.f3 = 0) ∧ (x.f0 < 5 → x.f4 = 0 ∧ x.f5 = 0) := by
    unfold clean
    rw [toList_LL]
    constructor
    · rintro ⟨a, b, c, d⟩; exact ⟨a, b, fun h => c (by omega), fun h => d (by omega)⟩
    · rintro ⟨a, b, c, d⟩; exact ⟨a, b, fun h => c (by omega), fun h => d (by omega)⟩
  simp only [hc] at go
  clear hc
  repeat' (refine Ev_ite (fun _ => ?_) (fun _ => ?_))
  all_goals refine go _ ?_
  all_goals (try (exfalso; omega))
  all_goals grind
theorem rwrong_f (l : List En) (hl : Small l) (j : Nat) (x : En) (hx : l[j]? = some x) : Ev (fun k => keystoneref3_Wrong.f k l (j : Int)) (wrongS l x) := by
  have hj := (List.getElem?_eq_some_iff.1 hx).1
  unfold keystoneref3_Wrong.f
  rw [rdE (l := l) (i := (j : Int)) (x := x) (by omega) (by simpa using hx)]
  refine Ev_pos (by omega) (Ev_pos (by omega) ?_)
  by_cases h : x.f0 < 1
  · exact Ev_pos h (rwrong_j0 l hl x true (by rw [decide_eq_true (.inl h)]))
  · exact Ev_neg h (rwrong_j0 l hl x _ (by rw [Bool.eq_iff_iff]; simp; omega))
theorem rcheck_l (l : List En) (hl : Small l) (hn : l.length ≤ 4096) : ∀ (c j : Nat), j + c = l.length → Ev (fun k => keystoneref3_Check.l0 k l (j : Int)) (badE l (j : Int) (l.drop j))
  | 0, j, hj => by
    rw [List.drop_of_length_le (by omega)]
    refine Ev.step (fun k => by rw [keystoneref3_Check.l0]) ?_
    exact Ev_neg (by omega) (Ev.now _)
  | c + 1, j, hj => by
    obtain ⟨x, hx⟩ := at_of (l := l) (j := j) (by omega)
    rw [drop_at hx, badE]
    have ih := rcheck_l l hl hn c (j + 1) (by omega)
    have hw : wrap64 ((j : Int) + 1) = ((j + 1 : Nat) : Int) := by rw [w64] <;> omega
    refine Ev.step (fun k => by rw [keystoneref3_Check.l0, hw]) (Ev_pos (by omega) (Ev.bind (rwrong_f l hl j x hx) ?_))
    by_cases h : wrongS l x = 0
    · rw [if_pos h]; exact Ev_pos h ih
    · rw [if_neg h]; exact Ev_neg h (Ev.now _)
theorem rcheck_f (l : List En) (hl : Small l) : Ev (fun k => keystoneref3_Check.f k l) (pcheckS l) := by
  unfold keystoneref3_Check.f pcheckS
  by_cases h : 4096 < l.length
  · rw [if_pos h]; exact Ev_pos (by omega) (Ev.now _)
  · rw [if_neg h]
    have := rcheck_l l hl (by omega) l.length 0 (Nat.zero_add _)
    rw [List.drop_zero] at this
    exact Ev_neg (by omega) this
theorem same_l (l : List En) (hn : l.length ≤ 9000000000000) : ∀ (c j : Nat), j + c = l.length → Ev (fun k => keystonelaw3_Same.l0 k l l (j : Int)) true
  | 0, j, hj => by
    refine Ev.step (fun k => by rw [keystonelaw3_Same.l0]) ?_
    exact Ev_neg (by omega) (Ev.now _)
  | c + 1, j, hj => by
    have ih := same_l l hn c (j + 1) (by omega)
    have hw : wrap64 ((j : Int) + 1) = ((j + 1 : Nat) : Int) := by rw [w64] <;> omega
    refine Ev.step (fun k => by rw [keystonelaw3_Same.l0, hw]) (Ev_pos (by omega) (Ev_pos (by omega) (Ev_pos (by omega) (Ev_neg (by simp) ih))))
theorem same_f (l : List En) (hn : l.length ≤ 9000000000000) : Ev (fun k => keystonelaw3_Same.f k l l) true := by
  unfold keystonelaw3_Same.f
  exact Ev_pos rfl (same_l l hn l.length 0 (Nat.zero_add _))
end Go.Proofs.YtldejfkplnejjaaDoor.Pure
namespace Go.Proofs.YtldejfkplnejjaaDoor.Pure
open Go.RowKit Go.Proofs.YtldejfkplnejjaaDoor.P Go.Proofs.YtldejfkplnejjaaDoorW.PrintWords
set_option linter.unusedVariables false
theorem LL_append (a b : ByteArray) : LL (a ++ b) = LL a ++ LL b := by simp [LL]
def chk (d : Int) (s : ByteArray) : Int := if d < 0 ∨ 8 < d then 1 else if s.toList = ([] : List UInt8) then 0 else if nm s = true then 0 else 14
theorem nm_le {s : ByteArray} (h : nm s = true) : s.size ≤ 32 := by
  unfold nm nmL at h
  simp only [Bool.and_eq_true, decide_eq_true_eq] at h
  rw [← LL_length]; exact h.2.2
theorem dcheck_j (d : Int) (s : ByteArray) (hs : s.size ≤ 140737488355328) (b : Bool) : Ev (fun k => desc_Check.j0 k b d s) (if b = true then 1 else if s.toList = ([] : List UInt8) then 0 else if nm s = true then 0 else 14) := by
  refine Ev.step (fun k => by rw [desc_Check.j0]) ?_
  cases b with
  | true => exact Ev_pos rfl (Ev.now _)
  | false =>
    refine Ev_neg Bool.false_ne_true ?_
    rw [if_neg Bool.false_ne_true]
    by_cases h : s.toList = ([] : List UInt8)
    · exact Ev_pos h (by rw [if_pos h]; exact Ev.now _)
    refine Ev_neg h ?_
    rw [if_neg h]
    refine (Ev.bind (dname_f s hs) ?_)
    by_cases h2 : nm s = true
    · exact Ev_pos h2 (by rw [if_pos h2]; exact Ev.now _)
    · exact Ev_neg h2 (by rw [if_neg h2]; exact Ev.now _)
theorem dcheck_f (d : Int) (s : ByteArray) (hs : s.size ≤ 140737488355328) : Ev (fun k => desc_Check.f k d s) (chk d s) := by
  unfold desc_Check.f chk
  have j := dcheck_j d s hs
  by_cases h : d < 0
  · rw [if_pos (.inl h)]; exact Ev_pos h (by simpa using j true)
  refine Ev_neg h ?_
  by_cases h2 : d > 8
  · rw [if_pos (.inr h2), decide_eq_true h2]; simpa using j true
  · rw [if_neg (by omega), decide_eq_false h2]; simpa using j false
theorem rtcheck_j (d : Int) (s : ByteArray) (hs : s.size ≤ 140737488355328) (b : Bool) : Ev (fun k => keystoneref2_Check.j0 k b d s) (if b = true then 1 else if s.toList = ([] : List UInt8) then 0 else if nm s = true then 0 else 14) := by
  refine Ev.step (fun k => by rw [keystoneref2_Check.j0]) ?_
  cases b with
  | true => exact Ev_pos rfl (Ev.now _)
  | false =>
    refine Ev_neg Bool.false_ne_true ?_
    rw [if_neg Bool.false_ne_true]
    by_cases h : s.toList = ([] : List UInt8)
    · exact Ev_pos h (by rw [if_pos h]; exact Ev.now _)
    refine Ev_neg h ?_
    rw [if_neg h]
    refine (Ev.bind (rname_f s hs) ?_)
    by_cases h2 : nm s = true
    · exact Ev_pos h2 (by rw [if_pos h2]; exact Ev.now _)
    · exact Ev_neg h2 (by rw [if_neg h2]; exact Ev.now _)
theorem rtcheck_f (d : Int) (s : ByteArray) (hs : s.size ≤ 140737488355328) : Ev (fun k => keystoneref2_Check.f k d s) (chk d s) := by
  unfold keystoneref2_Check.f chk
  have j := rtcheck_j d s hs
  by_cases h : d < 0
  · rw [if_pos (.inl h)]; exact Ev_pos h (by simpa using j true)
  refine Ev_neg h ?_
  by_cases h2 : d > 8
  · rw [if_pos (.inr h2), decide_eq_true h2]; simpa using j true
  · rw [if_neg (by omega), decide_eq_false h2]; simpa using j false
theorem chk_0 {d : Int} {s : ByteArray} (h : chk d s = 0) : 0 ≤ d ∧ d ≤ 8 ∧ s.size ≤ 32 ∧ (s.toList = [] ∨ nm s = true) := by
  unfold chk at h
  by_cases h0 : d < 0 ∨ 8 < d
  · rw [if_pos h0] at h; cases h
  rw [if_neg h0] at h
  by_cases h1 : s.toList = ([] : List UInt8)
  · refine ⟨by omega, by omega, ?_, .inl h1⟩
    rw [toList_LL] at h1
    have := LL_length s
    rw [h1] at this
    simp at this; omega
  rw [if_neg h1] at h
  by_cases h2 : nm s = true
  · exact ⟨by omega, by omega, nm_le h2, .inr h2⟩
  · rw [if_neg h2] at h; cases h
theorem BA_LL (s : ByteArray) : BA (LL s) = s := LL_inj (LL_BA _)
def bodyL (m : List UInt8) : List UInt8 := if m = [] then [73] else 76 :: m ++ [59]
def textL (d : Nat) (m : List UInt8) : List UInt8 := List.replicate d 91 ++ bodyL m
def textS (d : Int) (s : ByteArray) : ByteArray × Int := if chk d s = 0 then (BA (textL d.toNat (LL s)), 0) else (⟨#[]⟩, chk d s)
theorem BA_append (a b : List UInt8) : BA a ++ BA b = BA (a ++ b) := LL_inj (by rw [LL_append, LL_BA, LL_BA, LL_BA])
theorem repeatL_one (c : UInt8) : ∀ n : Nat, Lib.repeatL [c] n = List.replicate n c
  | 0 => by simp [Lib.repeatL]
  | n + 1 => by
    have ih := repeatL_one c n
    simp only [Lib.repeatL, List.replicate_succ] at ih ⊢
    rw [ih]; rfl
theorem dtext_f (d : Int) (s : ByteArray) (hs : s.size ≤ 140737488355328) : Ev (fun k => desc_TypeText.f k d s) (textS d s) := by
  unfold desc_TypeText.f textS
  refine Ev.bind (dcheck_f d s hs) ?_
  by_cases h : chk d s = 0
  · rw [h]
    obtain ⟨h0, h1, h2, h3⟩ := chk_0 h
    have hl := LL_length s
    have hr : strings_Repeat.f (⟨#[91]⟩ : ByteArray) d = some (BA (List.replicate d.toNat 91)) := by
      unfold strings_Repeat.f
      rw [if_pos ⟨rfl, h0, by omega⟩]
      congr 1
      show BA (Lib.repeatL [91] d.toNat) = _
      rw [repeatL_one]
    refine Ev_pos rfl (Ev_bindc hr ?_)
    have hsz : (BA (List.replicate d.toNat (91 : UInt8))).size ≤ 8 := by rw [BA_size, List.length_replicate]; omega
    rw [if_pos rfl]
    by_cases h4 : s.toList = ([] : List UInt8)
    · refine Ev_pos h4 (Ev_pos (by omega) (Ev_const ?_))
      rw [toList_LL] at h4
      unfold textL bodyL
      rw [h4, if_pos rfl, show (⟨#[73]⟩ : ByteArray) = BA [73] from rfl, BA_append]
    · rw [show (⟨#[76]⟩ : ByteArray) = BA [76] from rfl, show (⟨#[59]⟩ : ByteArray) = BA [59] from rfl]
      have e : ((BA (List.replicate d.toNat (91 : UInt8)) ++ BA [76]) ++ s) ++ BA [59] = BA (textL d.toNat (LL s)) := by
        rw [toList_LL] at h4
        unfold textL bodyL
        rw [if_neg h4]
        conv => lhs; rw [← BA_LL s]
        rw [BA_append, BA_append, BA_append]
        simp
      refine Ev_neg h4 (Ev_pos (by omega) (Ev_pos ?_ (Ev_pos ?_ (Ev_const (by rw [e])))))
      · rw [BA_append, BA_size, List.length_append, List.length_replicate]; simp; omega
      · conv => lhs; rw [← BA_LL s]
        rw [BA_append, BA_append, BA_size]; simp; omega
  · exact Ev_neg h (by rw [if_neg h]; exact Ev.now _)
def parE : List Ty → Int
  | [] => 0
  | t :: l => if chk t.f0 t.f1 = 0 then parE l else chk t.f0 t.f1
def parT : List Ty → List UInt8
  | [] => []
  | t :: l => textL t.f0.toNat (LL t.f1) ++ parT l
theorem parT_append : ∀ a b : List Ty, parT (a ++ b) = parT a ++ parT b
  | [], b => rfl
  | t :: a, b => by rw [List.cons_append, parT, parT, parT_append a b, List.append_assoc]
theorem textL_len (d : Int) (s : ByteArray) (h : chk d s = 0) : (textL d.toNat (LL s)).length ≤ 50 := by
  obtain ⟨h0, h1, h2, h3⟩ := chk_0 h
  have hl := LL_length s
  unfold textL bodyL
  rw [List.length_append, List.length_replicate]
  split <;> simp <;> omega
theorem parT_len : ∀ l : List Ty, parE l = 0 → (parT l).length ≤ 50 * l.length
  | [], _ => Nat.zero_le _
  | t :: l, h => by
    unfold parE at h
    split at h
    · rename_i hc
      have := textL_len _ _ hc
      have := parT_len l h
      simp only [parT, List.length_append, List.length_cons]
      omega
    · rename_i hc; exact absurd h hc
theorem parE_append : ∀ a b : List Ty, parE a = 0 → parE (a ++ b) = parE b
  | [], b, _ => rfl
  | t :: a, b, h => by
    unfold parE at h
    split at h
    · rename_i hc
      rw [List.cons_append, parE, if_pos hc]
      exact parE_append a b h
    · rename_i hc; exact absurd h hc
def sigT (ps : List Ty) (v : Bool) (d : Int) (m : ByteArray) : ByteArray × Int :=
  if 16 < ps.length then (⟨#[]⟩, 4) else if parE ps = 0 then
    (if v = true then (if d = 0 ∧ LL m = [] then (BA (40 :: parT ps ++ [41, 86]), 0) else (⟨#[]⟩, 1))
     else if chk d m = 0 then (BA (40 :: parT ps ++ 41 :: textL d.toNat (LL m)), 0) else (⟨#[]⟩, chk d m))
  else (⟨#[]⟩, parE ps)
theorem sigT_16 {ps : List Ty} {v : Bool} {d : Int} {m : ByteArray} (h : 16 < ps.length) : sigT ps v d m = (⟨#[]⟩, 4) := by unfold sigT; rw [if_pos h]
theorem sigT_e {ps : List Ty} {v : Bool} {d : Int} {m : ByteArray} (h : ps.length ≤ 16) (hp : parE ps ≠ 0) : sigT ps v d m = (⟨#[]⟩, parE ps) := by unfold sigT; rw [if_neg (Nat.not_lt.2 h), if_neg hp]
theorem sigT_t0 {ps : List Ty} {d : Int} {m : ByteArray} (h : ps.length ≤ 16) (hp : parE ps = 0) (h0 : d = 0 ∧ LL m = []) : sigT ps true d m = (BA (40 :: parT ps ++ [41, 86]), 0) := by unfold sigT; rw [if_neg (Nat.not_lt.2 h), if_pos hp, if_pos rfl, if_pos h0]
theorem sigT_t1 {ps : List Ty} {d : Int} {m : ByteArray} (h : ps.length ≤ 16) (hp : parE ps = 0) (h0 : ¬ (d = 0 ∧ LL m = [])) : sigT ps true d m = (⟨#[]⟩, 1) := by unfold sigT; rw [if_neg (Nat.not_lt.2 h), if_pos hp, if_pos rfl, if_neg h0]
theorem sigT_f0 {ps : List Ty} {d : Int} {m : ByteArray} (h : ps.length ≤ 16) (hp : parE ps = 0) (h0 : chk d m = 0) : sigT ps false d m = (BA (40 :: parT ps ++ 41 :: textL d.toNat (LL m)), 0) := by unfold sigT; rw [if_neg (Nat.not_lt.2 h), if_pos hp, if_neg Bool.false_ne_true, if_pos h0]
theorem sigT_f1 {ps : List Ty} {d : Int} {m : ByteArray} (h : ps.length ≤ 16) (hp : parE ps = 0) (h0 : chk d m ≠ 0) : sigT ps false d m = (⟨#[]⟩, chk d m) := by unfold sigT; rw [if_neg (Nat.not_lt.2 h), if_pos hp, if_neg Bool.false_ne_true, if_neg h0]
theorem textS_0 {d : Int} {m : ByteArray} (h0 : chk d m = 0) : textS d m = (BA (textL d.toNat (LL m)), 0) := by unfold textS; rw [if_pos h0]
theorem textS_1 {d : Int} {m : ByteArray} (h0 : chk d m ≠ 0) : textS d m = (⟨#[]⟩, chk d m) := by unfold textS; rw [if_neg h0]
theorem res0 (d : Int) (m : ByteArray) : (!(d == 0) || (!(m.toList == ([] : List UInt8)))) = !(decide (d = 0 ∧ LL m = [])) := by
  rw [toList_LL]
  by_cases h : d = 0 <;> by_cases h' : LL m = [] <;> simp [h, h']
theorem put41 (l r : List UInt8) : (BA l ++ (⟨#[41]⟩ : ByteArray)) ++ BA r = BA (l ++ 41 :: r) := by
  rw [show (⟨#[41]⟩ : ByteArray) = BA [41] from rfl, BA_append, BA_append, List.append_assoc]; rfl
theorem rdT (ps : List Ty) {j : Nat} {t : Ty} (h : ps[j]? = some t) : rd_T34 ps (j : Int) = t := getD_at rfl h
theorem dsigt_e (ps : List Ty) (v : Bool) (d : Int) (m : ByteArray) (hm : m.size ≤ 140737488355328) (h16 : ps.length ≤ 16) (hp : parE ps = 0) : Ev (fun k => desc_SigText.j1 k (BA (40 :: parT ps)) (if v = true then !(decide (d = 0 ∧ LL m = [])) else false) ps v d m) (sigT ps v d m) := by
  have hpl := parT_len ps hp
  refine Ev.step (fun k => by rw [desc_SigText.j1]) ?_
  have s1 : (BA (40 :: parT ps)).size ≤ 1000 := by rw [BA_size, List.length_cons]; omega
  have s2 : (BA (40 :: parT ps) ++ (⟨#[41]⟩ : ByteArray)).size ≤ 1001 := by rw [ByteArray.size_append]; exact Nat.add_le_add s1 (Nat.le_refl 1)
  cases v with
  | true =>
    by_cases h0 : d = 0 ∧ LL m = []
    · rw [if_pos rfl, decide_eq_true h0, sigT_t0 h16 hp h0]
      have hm0 : m = ⟨#[]⟩ := LL_inj h0.2
      obtain ⟨rfl, _⟩ := h0
      subst hm0
      refine Ev_neg (by simp) (Ev.bind (dtext_f _ _ (by decide)) ?_)
      refine Ev_pos (show (textS 0 ⟨#[]⟩).2 = 0 by decide +kernel) (Ev_pos rfl (Ev_pos (by omega) (Ev_pos (by omega) (Ev_const ?_))))
      rw [show (⟨#[86]⟩ : ByteArray) = BA [86] from rfl, put41]
    · rw [if_pos rfl, decide_eq_false h0, sigT_t1 h16 hp h0]
      exact Ev_pos rfl (Ev.now _)
  | false =>
    refine Ev_neg (by simp) (Ev.bind (dtext_f _ _ hm) ?_)
    by_cases hc : chk d m = 0
    · rw [textS_0 hc, sigT_f0 h16 hp hc]
      have := textL_len _ _ hc
      exact Ev_pos rfl (Ev_neg Bool.false_ne_true (Ev_pos (by omega) (Ev_pos (by simp only [BA_size] at *; omega) (Ev_const (by rw [put41])))))
    · rw [textS_1 hc, sigT_f1 h16 hp hc]
      exact Ev_neg hc (Ev.now _)
theorem dsigt_l (v : Bool) (d : Int) (m : ByteArray) (hm : m.size ≤ 140737488355328) (ps : List Ty) (hz : ∀ t ∈ ps, t.f1.size ≤ 140737488355328) (h16 : ps.length ≤ 16) : ∀ (c : Nat) (a b : List Ty), b.length = c → ps = a ++ b → parE a = 0 →
    Ev (fun k => desc_SigText.l0 k (BA (40 :: parT a)) ps (ps.length : Int) (a.length : Int) ps v d m) (sigT ps v d m)
  | 0, a, b, hc, hab, ha => by
    have hb : b = [] := List.length_eq_zero_iff.1 hc
    subst hb
    rw [List.append_nil] at hab
    subst hab
    have h := dsigt_e ps v d m hm h16 ha
    refine Ev.step (fun k => by rw [desc_SigText.l0]) (Ev_neg (by omega) ?_)
    cases v with
    | true => exact Ev_pos rfl (by rw [res0]; exact h)
    | false => exact Ev_neg Bool.false_ne_true h
  | c + 1, a, [], hc, hab, ha => by simp at hc
  | c + 1, a, t :: b, hc, hab, ha => by
    have hlen : ps.length = a.length + (b.length + 1) := by rw [hab]; simp
    have hat : ps[a.length]? = some t := by rw [hab]; simp
    have hin : t ∈ ps := by rw [hab]; simp
    have hpl := parT_len a ha
    have hw : wrap64 ((a.length : Int) + 1) = ((a ++ [t]).length : Int) := by rw [w64 (by omega) (by omega)]; simp
    refine Ev.step (fun k => by rw [desc_SigText.l0, rdT ps hat, hw]) (Ev_pos (by omega) (Ev_pos (by omega) (Ev_pos (by omega) (Ev.bind (dtext_f _ _ (hz t hin)) ?_))))
    by_cases hk : chk t.f0 t.f1 = 0
    · rw [textS_0 hk]
      have := textL_len _ _ hk
      refine Ev_pos rfl (Ev_pos (by simp only [BA_size, List.length_cons]; omega) ?_)
      have ih := dsigt_l v d m hm ps hz h16 c (a ++ [t]) b (by simpa using hc) (by rw [hab]; simp) (by rw [parE_append a _ ha, parE, if_pos hk]; rfl)
      rw [parT_append, show parT [t] = textL t.f0.toNat (LL t.f1) by simp [parT]] at ih
      rw [BA_append]
      exact ih
    · rw [textS_1 hk]
      have e : parE ps = chk t.f0 t.f1 := by rw [hab, parE_append a _ ha, parE, if_neg hk]
      rw [sigT_e h16 (by rw [e]; exact hk), e]
      exact Ev_neg hk (Ev.now _)
theorem dsigt_f (ps : List Ty) (v : Bool) (d : Int) (m : ByteArray) (hm : m.size ≤ 140737488355328) (hz : ∀ t ∈ ps, t.f1.size ≤ 140737488355328) : Ev (fun k => desc_SigText.f k ps v d m) (sigT ps v d m) := by
  unfold desc_SigText.f
  by_cases h16 : 16 < ps.length
  · rw [sigT_16 h16]; exact Ev_pos (by omega) (Ev.now _)
  · exact Ev_neg (by omega) (dsigt_l v d m hm ps hz (by omega) _ [] ps rfl rfl rfl)
set_option linter.unusedVariables false
theorem pre_l (d : Int) (s : ByteArray) (m : List UInt8) (hm : m.length ≤ 1000) (hd : d ≤ 8) : ∀ (c j : Nat), (j : Int) + c = d → Ev (fun k => keystoneref2_TypeText.l0 k (BA (List.replicate j 91 ++ m)) (j : Int) d s) ((BA (List.replicate (j + c) 91 ++ m), 0) : ByteArray × Int)
  | 0, j, hj => by
    refine Ev.step (fun k => by rw [keystoneref2_TypeText.l0]) (Ev_neg (by omega) ?_)
    exact Ev.now _
  | c + 1, j, hj => by
    refine Ev.step (fun k => by rw [keystoneref2_TypeText.l0]) (Ev_pos (by omega) (Ev_pos (by rw [BA_size]; simp; omega) ?_))
    rw [show wrap64 ((j : Int) + 1) = ((j + 1 : Nat) : Int) by rw [w64] <;> omega, show (⟨#[91]⟩ : ByteArray) = BA [91] from rfl, BA_append]
    have ih := pre_l d s m hm hd c (j + 1) (by omega)
    rw [show j + (c + 1) = j + 1 + c by omega]
    rwa [show ([91] : List UInt8) ++ (List.replicate j 91 ++ m) = List.replicate (j + 1) 91 ++ m by simp [List.replicate_succ]]
theorem rttext_f (d : Int) (s : ByteArray) (hs : s.size ≤ 140737488355328) : Ev (fun k => keystoneref2_TypeText.f k d s) (textS d s) := by
  unfold keystoneref2_TypeText.f textS
  refine Ev.bind (rtcheck_f d s hs) ?_
  by_cases h : chk d s = 0
  · rw [h]
    obtain ⟨h0, h1, h2, h3⟩ := chk_0 h
    have hl := LL_length s
    refine Ev_pos rfl ?_
    rw [if_pos rfl]
    have run : ∀ m : List UInt8, m.length ≤ 1000 → Ev (fun k => keystoneref2_TypeText.j0 k (BA m) d s) ((BA (List.replicate d.toNat 91 ++ m), 0) : ByteArray × Int) := fun m hm => by
      refine Ev.step (fun k => by rw [keystoneref2_TypeText.j0]) ?_
      have := pre_l d s m hm h1 d.toNat 0 (by omega)
      rw [Nat.zero_add] at this
      exact this
    by_cases h4 : s.toList = ([] : List UInt8)
    · refine Ev_pos h4 ?_
      have := run [73] (by simp)
      rw [toList_LL] at h4
      unfold textL bodyL
      rw [h4, if_pos rfl]
      exact this
    · have e : (BA [76] ++ s) ++ BA [59] = BA (76 :: LL s ++ [59]) := by
        conv => lhs; rw [← BA_LL s]
        rw [BA_append, BA_append]; rfl
      rw [show (⟨#[76]⟩ : ByteArray) = BA [76] from rfl, show (⟨#[59]⟩ : ByteArray) = BA [59] from rfl, e]
      refine Ev_neg h4 (Ev_pos (by omega) (Ev_pos ?_ ?_))
      · conv => lhs; rw [← BA_LL s]
        rw [BA_append, BA_size]; simp; omega
      · have := run (76 :: LL s ++ [59]) (by simp; omega)
        rw [toList_LL] at h4
        unfold textL bodyL
        rw [if_neg h4]
        exact this
  · exact Ev_neg h (by rw [if_neg h]; exact Ev.now _)
theorem rsigt_l (v : Bool) (d : Int) (m : ByteArray) (hm : m.size ≤ 140737488355328) (ps : List Ty) (hz : ∀ t ∈ ps, t.f1.size ≤ 140737488355328) (h16 : ps.length ≤ 16) : ∀ (c : Nat) (a b : List Ty), b.length = c → ps = a ++ b → parE a = 0 →
    Ev (fun k => keystoneref2_SigText.l0 k (BA (40 :: parT a)) (a.length : Int) ps v d m) (sigT ps v d m)
  | 0, a, b, hc, hab, ha => by
    have hb : b = [] := List.length_eq_zero_iff.1 hc
    subst hb
    rw [List.append_nil] at hab
    subst hab
    have hpl := parT_len ps ha
    have s1 : (BA (40 :: parT ps)).size ≤ 1000 := by rw [BA_size, List.length_cons]; omega
    have s2 : (BA (40 :: parT ps) ++ (⟨#[41]⟩ : ByteArray)).size ≤ 1001 := by rw [ByteArray.size_append]; exact Nat.add_le_add s1 (Nat.le_refl 1)
    refine Ev.step (fun k => by rw [keystoneref2_SigText.l0, res0]) (Ev_neg (by omega) ?_)
    cases v with
    | true =>
      refine Ev_pos rfl ?_
      by_cases h0 : d = 0 ∧ LL m = []
      · rw [decide_eq_true h0, sigT_t0 h16 ha h0]
        refine Ev_neg (by simp) (Ev_pos (by omega) (Ev_const ?_))
        rw [show (⟨#[41, 86]⟩ : ByteArray) = BA [41, 86] from rfl, BA_append]
      · rw [decide_eq_false h0, sigT_t1 h16 ha h0]
        exact Ev_pos rfl (Ev.now _)
    | false =>
      refine Ev_neg Bool.false_ne_true (Ev.bind (rttext_f _ _ hm) ?_)
      by_cases hc : chk d m = 0
      · rw [textS_0 hc, sigT_f0 h16 ha hc]
        have := textL_len _ _ hc
        exact Ev_pos rfl (Ev_pos (by omega) (Ev_pos (by simp only [BA_size] at *; omega) (Ev_const (by rw [put41]))))
      · rw [textS_1 hc, sigT_f1 h16 ha hc]
        exact Ev_neg hc (Ev.now _)
  | c + 1, a, [], hc, hab, ha => by simp at hc
  | c + 1, a, t :: b, hc, hab, ha => by
    have hlen : ps.length = a.length + (b.length + 1) := by rw [hab]; simp
    have hat : ps[a.length]? = some t := by rw [hab]; simp
    have hin : t ∈ ps := by rw [hab]; simp
    have hpl := parT_len a ha
    have hw : wrap64 ((a.length : Int) + 1) = ((a ++ [t]).length : Int) := by rw [w64 (by omega) (by omega)]; simp
    refine Ev.step (fun k => by rw [keystoneref2_SigText.l0, rdT ps hat, hw]) (Ev_pos (by omega) (Ev_pos (by omega) (Ev.bind (rttext_f _ _ (hz t hin)) ?_)))
    by_cases hk : chk t.f0 t.f1 = 0
    · rw [textS_0 hk]
      have := textL_len _ _ hk
      refine Ev_pos rfl (Ev_pos (by simp only [BA_size, List.length_cons]; omega) ?_)
      have ih := rsigt_l v d m hm ps hz h16 c (a ++ [t]) b (by simpa using hc) (by rw [hab]; simp) (by rw [parE_append a _ ha, parE, if_pos hk]; rfl)
      rw [parT_append, show parT [t] = textL t.f0.toNat (LL t.f1) by simp [parT]] at ih
      rw [BA_append]
      exact ih
    · rw [textS_1 hk]
      have e : parE ps = chk t.f0 t.f1 := by rw [hab, parE_append a _ ha, parE, if_neg hk]
      rw [sigT_e h16 (by rw [e]; exact hk), e]
      exact Ev_neg hk (Ev.now _)
theorem rsigt_f (ps : List Ty) (v : Bool) (d : Int) (m : ByteArray) (hm : m.size ≤ 140737488355328) (hz : ∀ t ∈ ps, t.f1.size ≤ 140737488355328) : Ev (fun k => keystoneref2_SigText.f k ps v d m) (sigT ps v d m) := by
  unfold keystoneref2_SigText.f
  by_cases h16 : 16 < ps.length
  · rw [sigT_16 h16]; exact Ev_pos (by omega) (Ev.now _)
  · exact Ev_neg (by omega) (rsigt_l v d m hm ps hz (by omega) _ [] ps rfl rfl rfl)
end Go.Proofs.YtldejfkplnejjaaDoor.Pure
namespace Go.Proofs.YtldejfkplnejjaaDoor.Pure
open Go.RowKit Go.Proofs.YtldejfkplnejjaaDoor.P Go.Proofs.YtldejfkplnejjaaDoorW.PrintWords Go.Proofs.YtldejfkplnejjaaDoor.Open
set_option linter.unusedVariables false
theorem textS_size (d : Int) (s : ByteArray) : (textS d s).1.size ≤ 50 := by
  unfold textS
  split
  · rename_i h
    show (BA _).size ≤ 50
    rw [BA_size]
    exact textL_len d s h
  · exact Nat.zero_le _
theorem sigT_size (ps : List Ty) (v : Bool) (d : Int) (m : ByteArray) : (sigT ps v d m).1.size ≤ 2000 := by
  by_cases h16 : 16 < ps.length
  · rw [sigT_16 h16]; exact Nat.zero_le _
  by_cases hp : parE ps = 0
  · have hl := parT_len ps hp
    cases v with
    | true =>
      by_cases h0 : d = 0 ∧ LL m = []
      · rw [sigT_t0 (by omega) hp h0]
        show (BA _).size ≤ 2000
        rw [BA_size, List.length_append, List.length_cons, List.length_cons, List.length_cons, List.length_nil]
        omega
      · rw [sigT_t1 (by omega) hp h0]; exact Nat.zero_le _
    | false =>
      by_cases h0 : chk d m = 0
      · rw [sigT_f0 (by omega) hp h0]
        show (BA _).size ≤ 2000
        have := textL_len d m h0
        rw [BA_size, List.length_append, List.length_cons, List.length_cons]
        omega
      · rw [sigT_f1 (by omega) hp h0]; exact Nat.zero_le _
  · rw [sigT_e (by omega) hp]; exact Nat.zero_le _
def wordOf (x : S57) : CW := ⟨nm x.f2, nm x.f3, mth x.f3, (textS x.f4.f0 x.f4.f1).1, (textS x.f4.f0 x.f4.f1).2, (sigT x.f5.f0 x.f5.f1 x.f5.f2.f0 x.f5.f2.f1).1, (sigT x.f5.f0 x.f5.f1 x.f5.f2.f0 x.f5.f2.f1).2⟩
theorem call_ok (x : S57) (h : ok57 x) : ∃ k, CallOk k x (wordOf x) ∧ CallOkR k x (wordOf x) := by
  obtain ⟨o0, o1, o2, o3, o4, o5⟩ := h
  obtain ⟨_, o4⟩ := o4
  obtain ⟨⟨o5, _, _⟩, _, _, o6⟩ := o5
  have hz : ∀ t ∈ x.f5.f0, t.f1.size ≤ 140737488355328 := fun t ht => Nat.le_trans (o5 t ht).2 (by decide)
  have hm : x.f5.f2.f1.size ≤ 140737488355328 := Nat.le_trans o6 (by decide)
  have ml : 140737488351232 ≤ maxLen := by decide
  obtain ⟨K1, h1⟩ := dname_f x.f2 (by omega)
  obtain ⟨K2, h2⟩ := dname_f x.f3 (by omega)
  obtain ⟨K3, h3⟩ := dmethod_f x.f3 (by omega)
  obtain ⟨K4, h4⟩ := dtext_f x.f4.f0 x.f4.f1 (by omega)
  obtain ⟨K5, h5⟩ := dsigt_f x.f5.f0 x.f5.f1 x.f5.f2.f0 x.f5.f2.f1 hm hz
  obtain ⟨K6, h6⟩ := rname_f x.f2 (by omega)
  obtain ⟨K7, h7⟩ := rname_f x.f3 (by omega)
  obtain ⟨K8, h8⟩ := rmethod_f x.f3 (by omega)
  obtain ⟨K9, h9⟩ := rttext_f x.f4.f0 x.f4.f1 (by omega)
  obtain ⟨K0, h0⟩ := rsigt_f x.f5.f0 x.f5.f1 x.f5.f2.f0 x.f5.f2.f1 hm hz
  have hk : ∃ k, K1 ≤ k ∧ K2 ≤ k ∧ K3 ≤ k ∧ K4 ≤ k ∧ K5 ≤ k ∧ K6 ≤ k ∧ K7 ≤ k ∧ K8 ≤ k ∧ K9 ≤ k ∧ K0 ≤ k := ⟨K1 + K2 + K3 + K4 + K5 + K6 + K7 + K8 + K9 + K0, by omega⟩
  obtain ⟨k, k1, k2, k3, k4, k5, k6, k7, k8, k9, k0⟩ := hk
  refine ⟨k, ⟨o1, by omega, by omega, Nat.le_trans (textS_size _ _) (by decide), Nat.le_trans (sigT_size _ _ _ _) (by decide), h1 k k1, h2 k k2, h3 k k3, h4 k k4, h5 k k5⟩, ⟨h6 k k6, h7 k k7, h8 k k8, h9 k k9, h0 k k0⟩⟩
theorem okE_of {x : S50} (h : ok50 x) : okE x := by
  obtain ⟨o0, o1, o2, o3, o4, o5⟩ := h
  exact ⟨o0, Nat.le_trans o1 (by decide), o2, o3, o4, o5⟩
end Go.Proofs.YtldejfkplnejjaaDoor.Pure
namespace Go.Proofs.YtldejfkplnejjaaDoor.Pure
open Go.RowKit Go.Proofs.YtldejfkplnejjaaDoor.P Go.Proofs.YtldejfkplnejjaaDoorW.PrintWords Go.Proofs.YtldejfkplnejjaaDoor.Open
set_option linter.unusedVariables false
theorem small_of {a0 : List En} {b : Nat} (B : sumOf m50 a0 + b ≤ 1048576) : Small a0 := fun x hx => by
  have h := sumOf_mem (m := m50) hx
  unfold m50 at h
  have hB := B
  unfold m50 at hB
  omega
theorem checks_ok (l : List En) (hs : Small l) : ∃ k r e, pool_Check.f k l = some (r, e) ∧ keystoneref3_Check.f k l = some (r, e) ∧ (e = 0 → l.length ≤ 4096) := by
  obtain ⟨K1, h1⟩ := pcheck_f l hs
  obtain ⟨K2, h2⟩ := rcheck_f l hs
  exact ⟨K1 + K2, (pcheckS l).1, (pcheckS l).2, h1 _ (Nat.le_add_right _ _), h2 _ (Nat.le_add_left _ _), fun h => (pcheck_ok h).2⟩
theorem same_e (L : List S50) (hL : L.length ≤ 4096) : ∃ k, keystonelaw3_Same.f k L L = some true := (same_f L (by omega)).rounds
end Go.Proofs.YtldejfkplnejjaaDoor.Pure
namespace Go.Proofs.YtldejfkplnejjaaDoor.Pure
open Go.RowKit Go.Proofs.YtldejfkplnejjaaDoor.P Go.Proofs.YtldejfkplnejjaaDoorW.PrintWords Go.Proofs.YtldejfkplnejjaaDoor.Open
set_option linter.unusedVariables false
theorem PoolOwn (a0 : List S50) (a1 a2 : S57) (h0 : (∀ x_ ∈ a0, ok50 x_) ∧ a0.length ≤ maxLen ∧ a0.length * 56 ≤ 140737488351232) (h1 : ok57 a1) (h2 : ok57 a2) (B : (sumOf m50 a0 + 1) + (m57 a1) + (m57 a2) ≤ 1048576) : keystonelaw3_PoolOwn.f a0 a1.f0 a1.f1 a1.f2 a1.f3 a1.f4.f0 a1.f4.f1 a1.f5.f0 a1.f5.f1 a1.f5.f2.f0 a1.f5.f2.f1 a2.f0 a2.f1 a2.f2 a2.f3 a2.f4.f0 a2.f4.f1 a2.f5.f0 a2.f5.f1 a2.f5.f2.f0 a2.f5.f2.f1 = some true := by
  have hs : Small a0 := small_of (b := 1 + m57 a1 + m57 a2) (by omega)
  unfold keystonelaw3_PoolOwn.f
  refine if_pos (fun _ _ _ => ⟨fun x hx => okE_of (h0.1 x hx), ?_, ?_, ?_, same_e⟩)
  · obtain ⟨k, r, e, h, _⟩ := checks_ok a0 hs
    exact ⟨k, r, e, h⟩
  · obtain ⟨k, h, _⟩ := call_ok a1 h1
    exact ⟨k, _, h⟩
  · obtain ⟨k, h, _⟩ := call_ok a2 h2
    exact ⟨k, _, h⟩
end Go.Proofs.YtldejfkplnejjaaDoor.Pure
