/- PoolKinds, plainly. -/
import Derived.Test.YtldejfkplnejjaaDoorWMore
import Derived.Test.YtldejfkplnejjaaDoorExtSig
import Derived.Test.YtldejfkplnejjaaDoorKinds
import Derived.Test.YtldejfkplnejjaaDoorP3
import Derived.Test.YtldejfkplnejjaaDoorP4
import Derived.Test.YtldejfkplnejjaaDoorExtUses
import Derived.Test.YtldejfkplnejjaaDoorP5
import Derived.Test.YtldejfkplnejjaaDoorP10
import Derived.Test.YtldejfkplnejjaaDoorP13
import Derived.Test.YtldejfkplnejjaaDoorExtV
namespace Go.Proofs.YtldejfkplnejjaaDoor.Pure
open Go.RowKit Go.Proofs.YtldejfkplnejjaaDoorW.PrintWords
theorem w64 {n : Int} (h0 : -9223372036854775808 ≤ n) (h1 : n ≤ 9223372036854775807) : wrap64 n = n := by unfold wrap64; omega
theorem Ev_const {α : Type} {o : Option α} {r : α} (h : o = some r) : Ev (fun _ => o) r := ⟨0, fun _ _ => h⟩
theorem Ev_pos {α : Type} {c : Prop} [Decidable c] {f g : Nat → Option α} {r : α} (hc : c) (h : Ev f r) : Ev (fun k => if c then f k else g k) r := by
  simpa only [if_pos hc] using h
theorem Ev_neg {α : Type} {c : Prop} [Decidable c] {f g : Nat → Option α} {r : α} (hc : ¬ c) (h : Ev g r) : Ev (fun k => if c then f k else g k) r := by
  simpa only [if_neg hc] using h
theorem Ev_ite {α : Type} {c : Prop} [Decidable c] {f g : Nat → Option α} {r : α} (h : c → Ev f r) (h' : ¬ c → Ev g r) : Ev (fun k => if c then f k else g k) r := by
  by_cases hc : c
  · exact Ev_pos hc (h hc)
  · exact Ev_neg hc (h' hc)
theorem Ev_bindc {α β : Type} {o : Option α} {x : α} {f : Nat → α → Option β} {r : β} (ho : o = some x) (h : Ev (fun n => f n x) r) : Ev (fun n => o.bind (f n)) r := by
  subst ho; exact h
theorem getD_at {α : Type} {l : List α} {d : α} {i : Int} {x : α} {j : Nat} (hi : i = j) (h : l[j]? = some x) : l.getD i.toNat d = x := by
  subst hi
  simp [List.getD, h]
theorem at_of {α : Type} {l : List α} {j : Nat} (h : j < l.length) : ∃ x, l[j]? = some x := ⟨l[j], List.getElem?_eq_getElem h⟩
theorem drop_at {α : Type} {l : List α} {j : Nat} {x : α} (h : l[j]? = some x) : l.drop j = x :: l.drop (j + 1) := by
  obtain ⟨hj, rfl⟩ := List.getElem?_eq_some_iff.1 h
  exact List.drop_eq_getElem_cons hj
end Go.Proofs.YtldejfkplnejjaaDoor.Pure
namespace Go.Proofs.YtldejfkplnejjaaDoor.Pure
open Go.RowKit Go.Proofs.YtldejfkplnejjaaDoor.P Go.Proofs.YtldejfkplnejjaaDoorW.PrintWords
set_option linter.unusedVariables false
def LL (s : ByteArray) : List UInt8 := s.data.toList
theorem LL_length (s : ByteArray) : (LL s).length = s.size := by simp [LL]
theorem LL_inj {a b : ByteArray} (h : LL a = LL b) : a = b := by
  cases a; cases b; simpa [LL] using h
theorem toList_LL (s : ByteArray) : s.toList = LL s := ByteArray.toList_eq s
theorem bt_of {s : ByteArray} {j : Nat} {c : UInt8} (h : (LL s)[j]? = some c) : bt s (j : Int) = (c.toNat : Int) := by
  obtain ⟨hj, rfl⟩ := List.getElem?_eq_some_iff.1 h
  rw [LL_length] at hj
  unfold bt
  rw [dif_pos (by simpa using hj)]
  rfl
theorem LL_extract (s : ByteArray) (i j : Nat) : LL (s.extract i j) = ((LL s).take j).drop i := by
  simp [LL, ByteArray.data_extract, Array.toList_extract, List.drop_take]
def letterS (c : Int) (first : Bool) : Bool := decide ((97 ≤ c ∧ c ≤ 122) ∨ (65 ≤ c ∧ c ≤ 90) ∨ c = 95) || (!first && decide (48 ≤ c ∧ c ≤ 57))
theorem letterS_t {c : Int} {f : Bool} (h : (97 ≤ c ∧ c ≤ 122) ∨ (65 ≤ c ∧ c ≤ 90) ∨ c = 95) : letterS c f = true := by unfold letterS; rw [decide_eq_true h]; rfl
theorem letterS_n {c : Int} {f : Bool} (h : ¬ ((97 ≤ c ∧ c ≤ 122) ∨ (65 ≤ c ∧ c ≤ 90) ∨ c = 95)) (h' : f = true ∨ ¬ (48 ≤ c ∧ c ≤ 57)) : letterS c f = false := by
  unfold letterS
  rw [decide_eq_false h]
  rcases h' with rfl | h'
  · rfl
  · rw [decide_eq_false h']; simp
theorem letter_f (c : Int) (b : Bool) : desc_letter.f c b = some (letterS c b) := by
  by_cases h : (97 ≤ c ∧ c ≤ 122) ∨ (65 ≤ c ∧ c ≤ 90) ∨ c = 95
  · rw [letterS_t h]
    unfold desc_letter.f
    repeat' split
    all_goals first | rfl | (exfalso; omega)
  · cases b with
    | true =>
      rw [letterS_n h (.inl rfl)]
      unfold desc_letter.f
      repeat' split
      all_goals first | rfl | (exfalso; omega) | (exfalso; simp_all; done)
    | false =>
      have e : letterS c false = decide (48 ≤ c ∧ c ≤ 57) := by unfold letterS; rw [decide_eq_false h]; simp
      rw [e]
      unfold desc_letter.f
      repeat' split
      all_goals first | (exfalso; omega) | (exfalso; simp_all; done) | (congr 1; simp; omega)
def allL : Bool → List UInt8 → Bool
  | _, [] => true
  | f, c :: l => letterS (c.toNat : Int) f && allL false l
def nmL (l : List UInt8) : Bool := allL true l && (decide (l ≠ []) && decide (l.length ≤ 32))
def nm (s : ByteArray) : Bool := nmL (LL s)
theorem dname_l (s : ByteArray) (hs : s.size ≤ 140737488355328) : ∀ (d j : Nat), j + d = s.size →
    Ev (fun k => desc_Name.l0 k s (s.size : Int) (j : Int)) (allL (decide (j = 0)) ((LL s).drop j) && (decide (LL s ≠ []) && decide ((LL s).length ≤ 32)))
  | 0, j, hj => by
    refine Ev.step (fun k => by rw [desc_Name.l0]) (Ev_neg (by omega) ?_)
    rw [List.drop_of_length_le (by rw [LL_length]; omega), toList_LL, LL_length]
    refine Ev_ite (fun h => Ev_const ?_) (fun h => Ev_const ?_)
    · rw [h]; rfl
    · simp [allL, h]; omega
  | d + 1, j, hj => by
    obtain ⟨c, hc⟩ := at_of (l := LL s) (j := j) (by rw [LL_length]; omega)
    rw [drop_at hc]
    refine Ev.step (fun k => by rw [desc_Name.l0]) (Ev_pos (by omega) (Ev_pos (by omega) (Ev_pos (by omega) (Ev_bindc (letter_f _ _) ?_))))
    rw [bt_of hc, show ((j : Int) == 0) = decide (j = 0) by by_cases h : j = 0 <;> simp [h]]
    rw [allL]
    by_cases hl : letterS (c.toNat : Int) (decide (j = 0)) = true
    · rw [hl, Bool.true_and]
      refine Ev_pos rfl ?_
      rw [show wrap64 ((j : Int) + 1) = ((j + 1 : Nat) : Int) by rw [w64] <;> omega]
      have ih := dname_l s hs d (j + 1) (by omega)
      rwa [show decide (j + 1 = 0) = false by simp] at ih
    · rw [Bool.not_eq_true] at hl
      rw [hl]
      exact Ev_neg Bool.false_ne_true (Ev.now _)
theorem dname_f (s : ByteArray) (hs : s.size ≤ 140737488355328) : Ev (fun k => desc_Name.f k s) (nm s) := by
  have h := dname_l s hs s.size 0 (Nat.zero_add _)
  rwa [show decide (0 = 0) = true from rfl, List.drop_zero] at h
def isInit (s : ByteArray) : Prop := s.toList = ([60, 105, 110, 105, 116, 62] : List UInt8)
instance (s : ByteArray) : Decidable (isInit s) := by unfold isInit; infer_instance
def mth (s : ByteArray) : Bool := if isInit s then true else nm s
def BA (l : List UInt8) : ByteArray := ⟨l.toArray⟩
theorem LL_BA (l : List UInt8) : LL (BA l) = l := by simp [LL, BA]
theorem BA_eq {s : ByteArray} {l : List UInt8} (h : LL s = l) : s = BA l := LL_inj (h.trans (LL_BA l).symm)
theorem BA_size (l : List UInt8) : (BA l).size = l.length := by rw [← LL_length, LL_BA]
theorem extract_BA (s : ByteArray) (j : Nat) : s.extract j s.size = BA ((LL s).drop j) := BA_eq (by rw [LL_extract, List.take_of_length_le (by rw [LL_length]; exact Nat.le_refl _)])
def brk (l : List UInt8) : Nat := (l.takeWhile (· == 91)).length
def semi (l : List UInt8) : Nat := (l.takeWhile (· != 59)).length
theorem brk_drop : ∀ l : List UInt8, l.dropWhile (· == 91) = l.drop (brk l)
  | [] => rfl
  | a :: l => by
    unfold brk
    by_cases h : (a == 91) = true
    · rw [List.dropWhile_cons_of_pos (p := (· == (91 : UInt8))) h, List.takeWhile_cons_of_pos (p := (· == (91 : UInt8))) h, List.length_cons, List.drop_succ_cons]; exact brk_drop l
    · rw [List.dropWhile_cons_of_neg (p := (· == (91 : UInt8))) h, List.takeWhile_cons_of_neg (p := (· == (91 : UInt8))) h]; rfl
theorem brk_le (l : List UInt8) : brk l ≤ l.length := (List.takeWhile_sublist _).length_le
def firstL (l : List UInt8) : Option (Nat × List UInt8 × List UInt8) :=
  if 8 < brk l then none else match l.drop (brk l) with
    | [] => none
    | c :: t => if c = 73 then some (brk l, [], t) else if c = 76 then (if semi t < t.length ∧ nmL (t.take (semi t)) = true then some (brk l, t.take (semi t), t.drop (semi t + 1)) else none) else none
def firstS : Option (Nat × List UInt8 × List UInt8) → Int × ByteArray × ByteArray × Bool
  | none => (0, ⟨#[]⟩, ⟨#[]⟩, false)
  | some (n, m, r) => ((n : Int), BA m, BA r, true)
theorem hasPrefix_f (s : ByteArray) (c : UInt8) : strings_HasPrefix.f s ⟨#[c]⟩ = some (decide ((LL s).head? = some c)) := by
  unfold strings_HasPrefix.f stringslite_HasPrefix.f
  have h1 : ((⟨#[c]⟩ : ByteArray).size : Int) = 1 := rfl
  rw [h1]
  cases hl : LL s with
  | nil =>
    have : s.size = 0 := by rw [← LL_length, hl]; rfl
    rw [if_neg (by omega)]; simp
  | cons a l =>
    have : s.size = l.length + 1 := by rw [← LL_length, hl]; rfl
    rw [if_pos (by omega), if_pos (by omega), if_pos (by omega)]
    simp only [Option.bind_some, toList_LL, LL_extract, hl]
    show some (_ == [c]) = _
    simp
    by_cases h : a = c <;> simp [h]
theorem indexByte_semi : ∀ l : List UInt8, Lib.indexByte l 59 = if semi l < l.length then (semi l : Int) else -1
  | [] => rfl
  | a :: l => by
    have ih := indexByte_semi l
    unfold Lib.indexByte semi
    by_cases h : a = 59
    · subst h; simp
    · have h' : (a != 59) = true := by simpa using h
      have h'' : (a == 59) = false := by simpa using h
      have e : (List.takeWhile (· != (59 : UInt8)) (a :: l)).length = semi l + 1 := by rw [List.takeWhile_cons_of_pos (p := (· != (59 : UInt8))) h']; rfl
      rw [h'', if_neg Bool.false_ne_true, e, List.length_cons]
      by_cases hs : semi l < l.length
      · rw [if_pos hs] at ih
        rw [ih, if_pos (show semi l + 1 < l.length + 1 by omega), if_neg (by simp)]; rfl
      · rw [if_neg hs] at ih
        rw [ih, if_neg (show ¬ semi l + 1 < l.length + 1 by omega)]; rfl
theorem cut_f (s : ByteArray) (hs : s.size ≤ 140737488355328) : strings_Cut.f s ⟨#[59]⟩ = some (if semi (LL s) < (LL s).length then (BA ((LL s).take (semi (LL s))), BA ((LL s).drop (semi (LL s) + 1)), true) else (s, ⟨#[]⟩, false)) := by
  unfold strings_Cut.f stringslite_Cut.f stringslite_Index.f
  rw [if_pos rfl, show s.data.toList = LL s from rfl, indexByte_semi]
  have h1 : ((⟨#[59]⟩ : ByteArray).size : Int) = 1 := rfl
  by_cases h : semi (LL s) < (LL s).length
  · rw [if_pos h, if_pos h]
    have hl := LL_length s
    simp only [Option.bind_some, h1]
    rw [w64 (by omega) (by omega), if_pos (by omega), if_pos (by omega), if_pos (by omega), if_pos (by omega), if_pos (by omega)]
    simp only [Option.bind_some]
    rw [show ((semi (LL s) : Int) + 1).toNat = semi (LL s) + 1 by omega, extract_BA, Int.toNat_natCast]
    congr 2
    exact BA_eq (by rw [LL_extract]; simp)
  · rw [if_neg h, if_neg h]; rfl
theorem first_f (s : ByteArray) (hs : s.size ≤ 140737488355328) : Ev (fun k => desc_first.f k s) (firstS (firstL (LL s))) := by
  unfold desc_first.f firstL
  have hl := LL_length s
  have hb := brk_le (LL s)
  refine Ev_bindc (x := BA ((LL s).drop (brk (LL s)))) (by unfold strings_TrimLeft.f; rw [if_pos rfl]; show some (BA (Lib.trimLeftB (LL s) 91)) = _; unfold Lib.trimLeftB; rw [brk_drop]) ?_
  simp only [BA_size, List.length_drop]
  have hn : wrap64 ((s.size : Int) - (((LL s).length - brk (LL s) : Nat) : Int)) = (brk (LL s) : Int) := by rw [w64] <;> omega
  rw [hn]
  by_cases h8 : 8 < brk (LL s)
  · rw [if_pos h8]; exact Ev_pos (by omega) (Ev.now _)
  rw [if_neg h8]
  refine Ev_neg (by omega) (Ev_pos (by omega) (Ev_pos (by omega) ?_))
  rw [Int.toNat_natCast, extract_BA]
  refine Ev_bindc (hasPrefix_f _ 73) ?_
  rw [LL_BA]
  have hsz : (BA ((LL s).drop (brk (LL s)))).size ≤ 140737488355328 := by rw [BA_size, List.length_drop]; omega
  generalize (LL s).drop (brk (LL s)) = u at hsz
  match u, hsz with
  | [], hsz =>
    refine Ev_neg (by simp) (Ev_bindc (cut_f _ hsz) ?_)
    rw [LL_BA]
    exact Ev_neg (by simp) (Ev.now _)
  | c :: t, hsz =>
    by_cases h1 : c = 73
    · subst h1
      refine Ev_pos (by simp) (Ev_pos (by rw [BA_size]; simp; omega) ?_)
      rw [extract_BA, LL_BA]
      exact Ev.now _
    have h1' : ¬ (decide ((c :: t).head? = some 73) = true) := by simpa using h1
    refine Ev_neg h1' (Ev_bindc (cut_f _ hsz) ?_)
    rw [LL_BA]
    simp only
    rw [if_neg h1]
    by_cases h2 : c = 76
    · subst h2
      rw [if_pos rfl]
      have e : semi (76 :: t) = semi t + 1 := by unfold semi; rw [List.takeWhile_cons_of_pos (by decide)]; rfl
      simp only [e, List.length_cons]
      by_cases h3 : semi t < t.length
      · rw [if_pos (show semi t + 1 < t.length + 1 by omega)]
        refine Ev_pos rfl (Ev_bindc (hasPrefix_f _ 76) (Ev_pos ?_ (Ev_pos ?_ ?_)))
        · rw [LL_BA]; simp
        · rw [BA_size]; simp; omega
        · simp only [extract_BA, LL_BA]
          rw [show ((76 :: t).take (semi t + 1)).drop 1 = t.take (semi t) by simp]
          refine Ev.bind (dname_f _ (by rw [BA_size]; simp only [BA_size, List.length_cons, List.length_take] at hsz ⊢; omega)) ?_
          have hnm : nm (BA (t.take (semi t))) = nmL (t.take (semi t)) := by unfold nm; rw [LL_BA]
          rw [hnm]
          by_cases h4 : nmL (t.take (semi t)) = true
          · refine Ev_pos h4 ?_
            rw [if_pos ⟨h3, h4⟩]
            exact Ev_const (by simp [firstS])
          · refine Ev_neg h4 ?_
            rw [if_neg (fun h => h4 h.2)]
            exact Ev.now _
      · rw [if_neg (show ¬ semi t + 1 < t.length + 1 by omega), if_neg (fun h => h3 h.1)]
        exact Ev_neg Bool.false_ne_true (Ev.now _)
    · rw [if_neg h2]
      refine Ev_ite (fun h5 => ?_) (fun _ => Ev.now _)
      by_cases h3 : semi (c :: t) < (c :: t).length
      · rw [if_pos h3]
        refine Ev_bindc (hasPrefix_f _ 76) (Ev_neg ?_ (Ev.now _))
        rw [LL_BA]
        cases hsm : semi (c :: t) with
        | zero => simp
        | succ n => simp [h2]
      · rw [if_neg h3] at h5
        exact absurd h5 Bool.false_ne_true
def typeL (l : List UInt8) : Int × ByteArray × Int := match firstL l with
  | some (n, m, []) => ((n : Int), BA m, 0)
  | _ => (0, ⟨#[]⟩, 15)
theorem type_f (s : ByteArray) (hs : s.size ≤ 140737488355328) : Ev (fun k => desc_Type.f k s) (typeL (LL s)) := by
  unfold desc_Type.f typeL
  refine Ev.bind (first_f s hs) ?_
  cases h : firstL (LL s) with
  | none => exact Ev_neg Bool.false_ne_true (Ev.now _)
  | some r =>
    obtain ⟨n, m, r⟩ := r
    refine Ev_pos rfl ?_
    cases r with
    | nil => exact Ev_pos (show (BA []).toList = [] by rw [toList_LL, LL_BA]) (Ev.now _)
    | cons a r => exact Ev_neg (show ¬ (BA (a :: r)).toList = [] by rw [toList_LL, LL_BA]; simp) (Ev.now _)
theorem first_len {l : List UInt8} {n : Nat} {m r : List UInt8} (h : firstL l = some (n, m, r)) : r.length < l.length ∧ n ≤ 8 ∧ m.length ≤ 32 := by
  unfold firstL at h
  split at h
  · cases h
  · rename_i h8
    split at h
    · cases h
    · rename_i c t hd
      have hlen : t.length + 1 = l.length - brk l := by rw [← List.length_drop, hd]; rfl
      split at h
      · simp only [Option.some.injEq, Prod.mk.injEq] at h
        obtain ⟨rfl, rfl, rfl⟩ := h
        exact ⟨by omega, by omega, by simp⟩
      · split at h
        · split at h
          · rename_i hh
            simp only [Option.some.injEq, Prod.mk.injEq] at h
            obtain ⟨rfl, rfl, rfl⟩ := h
            have := hh.2
            unfold nmL at this
            simp only [Bool.and_eq_true, decide_eq_true_eq] at this
            exact ⟨by rw [List.length_drop]; omega, by omega, this.2.2⟩
          · cases h
        · cases h
abbrev Ty := S34
abbrev SigV := List Ty × Bool × Int × ByteArray × Int
def sigE (acc : List Ty) (r : List UInt8) : SigV :=
  if r = [86] then (if 16 < acc.length then ([], false, 0, ⟨#[]⟩, 4) else (acc, true, 0, ⟨#[]⟩, 0))
  else match firstL r with
    | some (n, m, []) => if 16 < acc.length then ([], false, 0, ⟨#[]⟩, 4) else (acc, false, (n : Int), BA m, 0)
    | _ => ([], false, 0, ⟨#[]⟩, 15)
def sigP : Nat → List Ty → List UInt8 → SigV
  | _, _, [] => ([], false, 0, ⟨#[]⟩, 15)
  | 0, _, _ :: _ => ([], false, 0, ⟨#[]⟩, 15)
  | f + 1, acc, c :: t => if c = 41 then sigE acc t else match firstL (c :: t) with
    | none => ([], false, 0, ⟨#[]⟩, 15)
    | some (n, m, r) => sigP f (acc ++ [⟨(n : Int), BA m⟩]) r
def sigS : List UInt8 → SigV
  | 40 :: t => sigP t.length [] t
  | _ => ([], false, 0, ⟨#[]⟩, 15)
theorem dsig_l : ∀ (f : Nat) (acc : List Ty) (s : ByteArray), s.size ≤ f → s.size ≤ 1000000000000 → acc.length + s.size ≤ 1000000000000 → Ev (fun k => desc_Sig.l0 k s acc false 0 ⟨#[]⟩) (sigP f acc (LL s))
  | f, acc, s, hf, hs, ha => by
    have hl := LL_length s
    refine Ev.step (fun k => by rw [desc_Sig.l0]) (Ev_bindc (hasPrefix_f s 41) ?_)
    match hu : LL s, f with
    | [], f =>
      refine Ev_neg (by simp) (Ev.bind (first_f s (by omega)) ?_)
      rw [hu]
      refine Ev_neg Bool.false_ne_true ?_
      cases f <;> exact Ev.now _
    | c :: t, 0 => rw [hu] at hl; simp at hl; omega
    | c :: t, f + 1 =>
      rw [hu] at hl
      simp only [List.length_cons] at hl
      by_cases hc : c = 41
      · subst hc
        refine Ev_pos (by simp) ?_
        have hx : s.extract 1 s.size = BA t := by rw [extract_BA, hu]; rfl
        show Ev _ (sigE acc t)
        unfold sigE
        by_cases hv : t = [86]
        · rw [if_pos hv]
          refine Ev_pos (by rw [toList_LL, hu, hv]) ?_
          by_cases h16 : 16 < acc.length
          · exact Ev_pos (by omega) (by rw [if_pos h16]; exact Ev.now _)
          · exact Ev_neg (by omega) (by rw [if_neg h16]; exact Ev.now _)
        · rw [if_neg hv]
          refine Ev_neg (by rw [toList_LL, hu]; simpa using hv) (Ev_pos (by omega) ?_)
          rw [hx]
          refine Ev.bind (first_f _ (by rw [BA_size]; omega)) ?_
          rw [LL_BA]
          have bad : ∀ (x : Int) (y : ByteArray), Ev (fun k => desc_Sig.j1 k true acc false x y) (([], false, 0, ⟨#[]⟩, 15) : SigV) := fun x y => by
            refine Ev.step (fun k => by rw [desc_Sig.j1]) ?_
            exact Ev_pos rfl (Ev.now _)
          cases hfl : firstL t with
          | none => exact Ev_neg Bool.false_ne_true (bad _ _)
          | some q =>
            obtain ⟨n, m, r⟩ := q
            refine Ev_pos rfl ?_
            cases r with
            | nil =>
              have e : ((BA []).toList != ([] : List UInt8)) = false := by rw [toList_LL, LL_BA]; rfl
              show Ev (fun k => desc_Sig.j1 k ((BA []).toList != ([] : List UInt8)) acc false (n : Int) (BA m)) _
              rw [e]
              refine Ev.step (fun k => by rw [desc_Sig.j1]) (Ev_neg Bool.false_ne_true ?_)
              by_cases h16 : 16 < acc.length
              · exact Ev_pos (by omega) (by simp only; rw [if_pos h16]; exact Ev.now _)
              · exact Ev_neg (by omega) (by simp only; rw [if_neg h16]; exact Ev.now _)
            | cons x r =>
              have e : ((BA (x :: r)).toList != ([] : List UInt8)) = true := by rw [toList_LL, LL_BA]; rfl
              show Ev (fun k => desc_Sig.j1 k ((BA (x :: r)).toList != ([] : List UInt8)) acc false (n : Int) (BA m)) _
              rw [e]
              exact bad _ _
      · refine Ev_neg (by simpa using hc) (Ev.bind (first_f s (by omega)) ?_)
        rw [hu]
        simp only [sigP]
        rw [if_neg hc]
        cases hfl : firstL (c :: t) with
        | none => exact Ev_neg Bool.false_ne_true (Ev.now _)
        | some q =>
          obtain ⟨n, m, r⟩ := q
          obtain ⟨h1, h2, h3⟩ := first_len hfl
          simp only [List.length_cons] at h1
          refine Ev_pos rfl (Ev_pos (by omega) ?_)
          have ih := dsig_l f (acc ++ [⟨(n : Int), BA m⟩]) (BA r) (by rw [BA_size]; omega) (by rw [BA_size]; omega) (by rw [BA_size]; simp; omega)
          rw [LL_BA] at ih
          exact ih
theorem dsig_f (s : ByteArray) (hs : s.size ≤ 1000000000000) : Ev (fun k => desc_Sig.f k s) (sigS (LL s)) := by
  unfold desc_Sig.f
  have hl := LL_length s
  refine Ev_bindc (hasPrefix_f s 40) ?_
  cases hu : LL s with
  | nil => exact Ev_neg (by simp) (Ev.now _)
  | cons c t =>
    rw [hu] at hl
    simp only [List.length_cons] at hl
    by_cases hc : c = 40
    · subst hc
      refine Ev_pos (by simp) (Ev_pos (by omega) ?_)
      have hx : s.extract 1 s.size = BA t := by rw [extract_BA, hu]; rfl
      rw [hx]
      have := dsig_l t.length [] (BA t) (by rw [BA_size]; exact Nat.le_refl _) (by rw [BA_size]; omega) (by rw [BA_size]; simp; omega)
      rw [LL_BA] at this
      exact this
    · refine Ev_neg (by simpa using hc) ?_
      have e : sigS (c :: t) = ([], false, 0, ⟨#[]⟩, 15) := by
        unfold sigS
        split
        · rename_i h; simp at h; exact absurd h.1 hc
        · rfl
      rw [e]
      exact Ev.now _
theorem dmethod_f (s : ByteArray) (hs : s.size ≤ 140737488355328) : Ev (fun k => desc_Method.f k s) (mth s) := by
  unfold desc_Method.f mth
  by_cases h : isInit s
  · rw [if_pos h]; exact Ev_pos h (Ev.now _)
  · rw [if_neg h]; exact Ev_neg h (Ev.bind (dname_f s hs) (Ev.now _))
end Go.Proofs.YtldejfkplnejjaaDoor.Pure
namespace Go.Proofs.YtldejfkplnejjaaDoor.Pure
open Go.RowKit Go.Proofs.YtldejfkplnejjaaDoor.P Go.Proofs.YtldejfkplnejjaaDoorW.PrintWords
set_option linter.unusedVariables false
abbrev En := S50
def kindS (l : List En) (i w : Int) : Option En := if 0 ≤ i then (match l[i.toNat]? with | some x => if x.f0 = w then some x else none | none => none) else none
def kindV : Option En → Int × ByteArray × Int × Int × Int × Int × Int
  | some x => (x.f0, x.f1, x.f2, x.f3, x.f4, x.f5, 0)
  | none => (0, ⟨#[]⟩, 0, 0, 0, 0, 16)
theorem rdE {l : List En} {i : Int} {x : En} (h0 : 0 ≤ i) (h : l[i.toNat]? = some x) : rd_T50 l i = x := by
  have : i = ((i.toNat : Nat) : Int) := by omega
  exact getD_at this h
theorem kindS_in {l : List En} {i w : Int} {x : En} (h : kindS l i w = some x) : x ∈ l ∧ 0 ≤ i ∧ i < l.length ∧ l[i.toNat]? = some x ∧ x.f0 = w := by
  unfold kindS at h
  split at h
  · rename_i h0
    split at h
    · rename_i y hy
      split at h
      · rename_i hw
        obtain rfl := Option.some.inj h
        exact ⟨List.mem_of_getElem? hy, h0, by have := (List.getElem?_eq_some_iff.1 hy).1; omega, hy, hw⟩
      · cases h
    · cases h
  · cases h
theorem kind_f (l : List En) (i w : Int) : pool_kind.f l i w = some (kindV (kindS l i w)) := by
  unfold pool_kind.f
  by_cases h0 : i < 0
  · rw [if_pos h0]; unfold kindS; rw [if_neg (by omega)]; rfl
  rw [if_neg h0]
  by_cases h1 : i ≥ (l.length : Int)
  · rw [if_pos h1]; unfold kindS; rw [if_pos (by omega), List.getElem?_eq_none (by omega)]; rfl
  have hp0 : 0 ≤ i := by omega
  rw [if_neg h1, if_pos hp0, if_pos (show i < (l.length : Int) by omega)]
  obtain ⟨x, hx⟩ := at_of (l := l) (j := i.toNat) (by omega)
  rw [rdE hp0 hx]
  have hk : kindS l i w = if x.f0 = w then some x else none := by
    unfold kindS
    rw [if_pos hp0, hx]
  rw [hk]
  by_cases hw : x.f0 = w
  · rw [if_pos hw, if_pos hw]; rfl
  · rw [if_neg hw, if_neg hw]; rfl
def Small (l : List En) : Prop := ∀ x ∈ l, x.f1.size ≤ 1000000000
def namedS (m : Bool) (l : List En) (i : Int) : Int := match kindS l i 1 with
  | none => 16
  | some x => if (if m = true then mth x.f1 else nm x.f1) = true then 0 else 14
def typedS (l : List En) (i : Int) : Int := match kindS l i 1 with
  | none => 16
  | some x => (typeL (LL x.f1)).2.2
def signedS (l : List En) (i : Int) : Int := match kindS l i 1 with
  | none => 16
  | some x => (sigS (LL x.f1)).2.2.2.2
theorem named_f (m : Bool) (l : List En) (hl : Small l) (i : Int) : Ev (fun k => pool_named.f k m l i) (namedS m l i) := by
  unfold pool_named.f namedS
  refine Ev_bindc (kind_f l i 1) ?_
  cases h : kindS l i 1 with
  | none => exact Ev_neg (show ¬ ((16 : Int) = 0) by omega) (Ev.now _)
  | some x =>
    have hs := hl x (kindS_in h).1
    refine Ev_pos rfl ?_
    cases m with
    | true => exact Ev.bind (dmethod_f x.f1 (by omega)) (Ev.now _)
    | false => exact Ev.bind (dname_f x.f1 (by omega)) (Ev.now _)
theorem typed_f (l : List En) (hl : Small l) (i : Int) : Ev (fun k => pool_typed.f k l i) (typedS l i) := by
  unfold pool_typed.f typedS
  refine Ev_bindc (kind_f l i 1) ?_
  cases h : kindS l i 1 with
  | none => exact Ev_neg (show ¬ ((16 : Int) = 0) by omega) (Ev.now _)
  | some x =>
    have hs := hl x (kindS_in h).1
    exact Ev_pos rfl (Ev.bind (type_f x.f1 (by omega)) (Ev.now _))
theorem signed_f (l : List En) (hl : Small l) (i : Int) : Ev (fun k => pool_signed.f k l i) (signedS l i) := by
  unfold pool_signed.f signedS
  refine Ev_bindc (kind_f l i 1) ?_
  cases h : kindS l i 1 with
  | none => exact Ev_neg (show ¬ ((16 : Int) = 0) by omega) (Ev.now _)
  | some x =>
    have hs := hl x (kindS_in h).1
    exact Ev_pos rfl (Ev.bind (dsig_f x.f1 (by omega)) (Ev.now _))
def usesS (l : List En) (x : En) : Int :=
  if x.f0 = 1 then (if (x.f1.size : Int) > 255 then 5 else 0) else if x.f0 = 2 then 0 else if x.f0 = 3 then namedS false l x.f3 else if x.f0 = 4 then typedS l x.f3
  else match kindS l x.f3 3 with
    | none => 16
    | some _ => if x.f0 = 6 then (if namedS true l x.f4 = 0 then signedS l x.f5 else namedS true l x.f4) else (if namedS false l x.f4 = 0 then typedS l x.f5 else namedS false l x.f4)
theorem uses_f (l : List En) (hl : Small l) (x : En) : Ev (fun k => pool_uses.f k l x.f0 x.f1 x.f2 x.f3 x.f4 x.f5) (usesS l x) := by
  unfold pool_uses.f usesS
  by_cases h1 : x.f0 = 1
  · rw [if_pos h1]
    refine Ev_pos h1 ?_
    by_cases h : (x.f1.size : Int) > 255
    · refine Ev_pos h ?_; rw [if_pos h]; exact Ev.now _
    · refine Ev_neg h ?_; rw [if_neg h]; exact Ev.now _
  rw [if_neg h1]
  refine Ev_neg h1 ?_
  by_cases h2 : x.f0 = 2
  · rw [if_pos h2]; exact Ev_pos h2 (Ev.now _)
  rw [if_neg h2]
  refine Ev_neg h2 ?_
  by_cases h3 : x.f0 = 3
  · rw [if_pos h3]; exact Ev_pos h3 (named_f false l hl _)
  rw [if_neg h3]
  refine Ev_neg h3 ?_
  by_cases h4 : x.f0 = 4
  · rw [if_pos h4]; exact Ev_pos h4 (typed_f l hl _)
  rw [if_neg h4]
  refine Ev_neg h4 (Ev_bindc (kind_f l x.f3 3) ?_)
  cases h : kindS l x.f3 3 with
  | none => exact Ev_neg (show ¬ ((16 : Int) = 0) by omega) (Ev.now _)
  | some y =>
    refine Ev_pos rfl ?_
    simp only
    by_cases h6 : x.f0 = 6
    · rw [if_pos h6]
      refine Ev_pos h6 (Ev.bind (named_f true l hl _) ?_)
      by_cases he : namedS true l x.f4 = 0
      · rw [if_pos he]; exact Ev_pos he (signed_f l hl _)
      · rw [if_neg he]; exact Ev_neg he (Ev.now _)
    · rw [if_neg h6]
      refine Ev_neg h6 (Ev.bind (named_f false l hl _) ?_)
      by_cases he : namedS false l x.f4 = 0
      · rw [if_pos he]; exact Ev_pos he (typed_f l hl _)
      · rw [if_neg he]; exact Ev_neg he (Ev.now _)
def clean (x : En) : Prop := (x.f0 ≠ 1 → LL x.f1 = []) ∧ (x.f0 ≠ 2 → x.f2 = 0) ∧ (x.f0 = 1 ∨ x.f0 = 2 → x.f3 = 0) ∧ (x.f0 ≠ 5 ∧ x.f0 ≠ 6 → x.f4 = 0 ∧ x.f5 = 0)
instance (x : En) : Decidable (clean x) := by unfold clean; exact inferInstance
def wrongS (l : List En) (x : En) : Int := if x.f0 < 1 ∨ 6 < x.f0 then 3 else if clean x then usesS l x else 1
theorem wrong_f (l : List En) (hl : Small l) (x : En) : Ev (fun k => pool_wrong.f k l x.f0 x.f1 x.f2 x.f3 x.f4 x.f5) (wrongS l x) := by
  have hu : ∀ {f : Nat → Option Int}, (∀ k, f k = (pool_uses.f k l x.f0 x.f1 x.f2 x.f3 x.f4 x.f5).bind fun t => some t) → Ev f (usesS l x) := fun {f} hf => by
    rw [show f = fun k => (pool_uses.f k l x.f0 x.f1 x.f2 x.f3 x.f4 x.f5).bind fun t => some t from funext hf]
    exact Ev.bind (uses_f l hl x) (Ev.now _)
  have go : ∀ (b : Bool), (b = true ↔ ¬ clean x) → 1 ≤ x.f0 → x.f0 ≤ 6 → Ev (fun k => if b = true then (some (1 : Int)) else ((pool_uses.f k l x.f0 x.f1 x.f2 x.f3 x.f4 x.f5).bind fun t => (some t))) (wrongS l x) := fun b hb h0 h1 => by
    unfold wrongS
    rw [if_neg (by omega)]
    by_cases hc : clean x
    · rw [if_pos hc]
      exact Ev_neg (fun h => (hb.1 h) hc) (hu fun _ => rfl)
    · rw [if_neg hc]
      exact Ev_pos (hb.2 hc) (Ev.now _)
  unfold pool_wrong.f
  by_cases h1 : x.f0 = 1
  · refine Ev_pos h1 (go _ ?_ (by omega) (by omega))
    simp [clean, h1]
    omega
  refine Ev_neg h1 ?_
  by_cases h2 : x.f0 = 2
  · refine Ev_pos h2 (go _ ?_ (by omega) (by omega))
    simp [clean, h2, toList_LL]
    constructor <;> intro h <;> grind
  refine Ev_neg h2 ?_
  have j1 : ∀ b : Bool, b = decide (x.f0 = 5 ∨ x.f0 = 6) → x.f0 ≠ 3 → x.f0 ≠ 4 → Ev (fun k => pool_wrong.j1 k l b x.f0 x.f1 x.f2 x.f3 x.f4 x.f5 x.f0 ⟨#[]⟩ 0 0 0 0) (wrongS l x) := fun b hb h3 h4 => by
    refine Ev.step (fun k => by rw [pool_wrong.j1]) ?_
    by_cases h56 : x.f0 = 5 ∨ x.f0 = 6
    · rw [hb, decide_eq_true h56]
      refine Ev_pos rfl (go _ ?_ (by omega) (by omega))
      simp [clean, h1, h2, toList_LL, LL]
      grind
    · rw [hb, decide_eq_false h56]
      refine Ev_neg Bool.false_ne_true ?_
      unfold wrongS
      rw [if_pos (by omega)]
      exact Ev.now _
  have j0 : ∀ b : Bool, b = decide (x.f0 = 3 ∨ x.f0 = 4) → Ev (fun k => pool_wrong.j0 k l x.f0 b x.f0 x.f1 x.f2 x.f3 x.f4 x.f5 x.f0 ⟨#[]⟩ 0 0 0 0) (wrongS l x) := fun b hb => by
    refine Ev.step (fun k => by rw [pool_wrong.j0]) ?_
    by_cases h34 : x.f0 = 3 ∨ x.f0 = 4
    · rw [hb, decide_eq_true h34]
      refine Ev_pos rfl (go _ ?_ (by omega) (by omega))
      simp [clean, h1, h2, toList_LL, LL]
      grind
    · rw [hb, decide_eq_false h34]
      refine Ev_neg Bool.false_ne_true ?_
      by_cases h5 : x.f0 = 5
      · exact Ev_pos h5 (j1 _ (by simp [h5]) (by omega) (by omega))
      · exact Ev_neg h5 (j1 _ (by rw [Bool.eq_iff_iff]; simp [h5]) (by omega) (by omega))
  by_cases h3 : x.f0 = 3
  · exact Ev_pos h3 (j0 _ (by simp [h3]))
  · exact Ev_neg h3 (j0 _ (by rw [Bool.eq_iff_iff]; simp [h3]))
end Go.Proofs.YtldejfkplnejjaaDoor.Pure
namespace Go.Proofs.YtldejfkplnejjaaDoor.Pure
open Go.RowKit Go.Proofs.YtldejfkplnejjaaDoor.P Go.Proofs.YtldejfkplnejjaaDoorW.PrintWords
set_option linter.unusedVariables false
theorem named_0 {m : Bool} {l : List En} {i : Int} (h : namedS m l i = 0) : ∃ y, kindS l i 1 = some y := by
  unfold namedS at h
  cases hk : kindS l i 1 with
  | none => rw [hk] at h; simp at h
  | some y => exact ⟨y, rfl⟩
theorem typed_0 {l : List En} {i : Int} (h : typedS l i = 0) : ∃ y, kindS l i 1 = some y := by
  unfold typedS at h
  cases hk : kindS l i 1 with
  | none => rw [hk] at h; simp at h
  | some y => exact ⟨y, rfl⟩
theorem signed_0 {l : List En} {i : Int} (h : signedS l i = 0) : ∃ y, kindS l i 1 = some y := by
  unfold signedS at h
  cases hk : kindS l i 1 with
  | none => rw [hk] at h; simp at h
  | some y => exact ⟨y, rfl⟩
theorem wrong_uses {l : List En} {x : En} (h : wrongS l x = 0) : usesS l x = 0 := by
  unfold wrongS at h
  split at h
  · simp at h
  · split at h
    · exact h
    · simp at h
theorem use_class {l : List En} {x : En} (h : wrongS l x = 0) (hk : x.f0 = 3) : ∃ y, kindS l x.f3 1 = some y := by
  have hu := wrong_uses h
  unfold usesS at hu
  rw [if_neg (by omega), if_neg (by omega), if_pos hk] at hu
  exact named_0 hu
theorem use_type {l : List En} {x : En} (h : wrongS l x = 0) (hk : x.f0 = 4) : ∃ y, kindS l x.f3 1 = some y := by
  have hu := wrong_uses h
  unfold usesS at hu
  rw [if_neg (by omega), if_neg (by omega), if_neg (by omega), if_pos hk] at hu
  exact typed_0 hu
theorem use_member {l : List En} {x : En} (h : wrongS l x = 0) (hk : x.f0 = 5 ∨ x.f0 = 6) : (∃ c, kindS l x.f3 3 = some c) ∧ (∃ y, kindS l x.f4 1 = some y) ∧ ∃ z, kindS l x.f5 1 = some z := by
  have hu := wrong_uses h
  unfold usesS at hu
  rw [if_neg (by omega), if_neg (by omega), if_neg (by omega), if_neg (by omega)] at hu
  cases hc : kindS l x.f3 3 with
  | none => rw [hc] at hu; simp at hu
  | some c =>
    rw [hc] at hu
    simp only at hu
    refine ⟨⟨c, rfl⟩, ?_⟩
    by_cases h6 : x.f0 = 6
    · rw [if_pos h6] at hu
      by_cases he : namedS true l x.f4 = 0
      · rw [if_pos he] at hu; exact ⟨named_0 he, signed_0 hu⟩
      · rw [if_neg he] at hu; exact absurd hu he
    · rw [if_neg h6] at hu
      by_cases he : namedS false l x.f4 = 0
      · rw [if_pos he] at hu; exact ⟨named_0 he, typed_0 hu⟩
      · rw [if_neg he] at hu; exact absurd hu he
def rightS (l : List En) (i w : Int) : Option En × Int := match kindS l i w with
  | none => (none, 16)
  | some x => if wrongS l x = 0 then (some x, 0) else (none, wrongS l x)
def rightV : Option En × Int → Int × ByteArray × Int × Int × Int × Int × Int
  | (some x, _) => (x.f0, x.f1, x.f2, x.f3, x.f4, x.f5, 0)
  | (none, e) => (0, ⟨#[]⟩, 0, 0, 0, 0, e)
theorem right_f (l : List En) (hl : Small l) (i w : Int) : Ev (fun k => pool_right.f k l i w) (rightV (rightS l i w)) := by
  unfold pool_right.f rightS
  refine Ev_bindc (kind_f l i w) ?_
  cases h : kindS l i w with
  | none => exact Ev_neg (show ¬ ((16 : Int) = 0) by omega) (Ev.now _)
  | some x =>
    refine Ev_pos rfl (Ev.bind (wrong_f l hl x) ?_)
    simp only
    by_cases hw : wrongS l x = 0
    · have e : (if wrongS l x = 0 then (some x, (0 : Int)) else (none, wrongS l x)) = (some x, 0) := if_pos hw
      rw [e]; exact Ev_pos hw (Ev.now _)
    · have e : (if wrongS l x = 0 then (some x, (0 : Int)) else (none, wrongS l x)) = (none, wrongS l x) := if_neg hw
      rw [e]; exact Ev_neg hw (Ev.now _)
theorem right_cases (l : List En) (i w : Int) : (∃ x, rightS l i w = (some x, 0) ∧ kindS l i w = some x ∧ wrongS l x = 0 ∧ x.f0 = w) ∨ ∃ e, e ≠ 0 ∧ rightS l i w = (none, e) := by
  unfold rightS
  cases h : kindS l i w with
  | none => exact .inr ⟨16, by omega, rfl⟩
  | some x =>
    simp only
    by_cases hw : wrongS l x = 0
    · exact .inl ⟨x, by rw [if_pos hw], rfl, hw, (kindS_in h).2.2.2.2⟩
    · exact .inr ⟨_, hw, by rw [if_neg hw]⟩
end Go.Proofs.YtldejfkplnejjaaDoor.Pure
namespace Go.Proofs.YtldejfkplnejjaaDoor.Pure
open Go.RowKit Go.Proofs.YtldejfkplnejjaaDoor.P Go.Proofs.YtldejfkplnejjaaDoorW.PrintWords
set_option linter.unusedVariables false
def badE (l : List En) : Int → List En → Int × Int
  | _, [] => (0, 0)
  | i, x :: r => if wrongS l x = 0 then badE l (i + 1) r else (i, wrongS l x)
def pcheckS (l : List En) : Int × Int := if 4096 < l.length then (4096, 4) else badE l 0 l
theorem pcheck_l (l : List En) (hl : Small l) (hn : l.length ≤ 4096) : ∀ (c j : Nat), j + c = l.length → Ev (fun k => pool_Check.l0 k l l (l.length : Int) (j : Int)) (badE l (j : Int) (l.drop j))
  | 0, j, hj => by
    rw [List.drop_of_length_le (by omega)]
    refine Ev.step (fun k => by rw [pool_Check.l0]) ?_
    exact Ev_neg (by omega) (Ev.now _)
  | c + 1, j, hj => by
    obtain ⟨x, hx⟩ := at_of (l := l) (j := j) (by omega)
    rw [drop_at hx, badE]
    have ih := pcheck_l l hl hn c (j + 1) (by omega)
    have hw : wrap64 ((j : Int) + 1) = ((j + 1 : Nat) : Int) := by rw [w64] <;> omega
    refine Ev.step (fun k => by rw [pool_Check.l0, hw, rdE (l := l) (i := (j : Int)) (x := x) (by omega) (by simpa using hx)]) (Ev_pos (by omega) (Ev_pos (by omega) (Ev_pos (by omega) (Ev.bind (wrong_f l hl x) ?_))))
    by_cases h : wrongS l x = 0
    · rw [if_pos h]; exact Ev_pos h ih
    · rw [if_neg h]; exact Ev_neg h (Ev.now _)
theorem pcheck_f (l : List En) (hl : Small l) : Ev (fun k => pool_Check.f k l) (pcheckS l) := by
  unfold pool_Check.f pcheckS
  by_cases h : 4096 < l.length
  · rw [if_pos h]; exact Ev_pos (by omega) (Ev.now _)
  · rw [if_neg h]
    have := pcheck_l l hl (by omega) l.length 0 (Nat.zero_add _)
    rw [List.drop_zero] at this
    exact Ev_neg (by omega) this
def AllR (l : List En) : Prop := ∀ x ∈ l, wrongS l x = 0
theorem badE_0 (l : List En) : ∀ (r : List En) (i : Int), (badE l i r).2 = 0 ↔ ∀ x ∈ r, wrongS l x = 0
  | [], _ => by simp [badE]
  | x :: r, i => by
    rw [badE]
    by_cases h : wrongS l x = 0
    · rw [if_pos h, badE_0 l r]; simp [h]
    · rw [if_neg h]; simp [h]
theorem pcheck_ok {l : List En} (h : (pcheckS l).2 = 0) : AllR l ∧ l.length ≤ 4096 := by
  unfold pcheckS at h
  split at h
  · simp at h
  · exact ⟨(badE_0 l l 0).1 h, by omega⟩
end Go.Proofs.YtldejfkplnejjaaDoor.Pure
namespace Go.Proofs.YtldejfkplnejjaaDoor.Pure
open Go.RowKit Go.Proofs.YtldejfkplnejjaaDoor.P Go.Proofs.YtldejfkplnejjaaDoorW.PrintWords
set_option linter.unusedVariables false
def txtOf (l : List En) (i : Int) : ByteArray := (rd_T50 l i).f1
abbrev eB : ByteArray := ⟨#[]⟩
def textV (l : List En) (i : Int) : ByteArray × Int := match rightS l i 1 with
  | (some x, _) => (x.f1, 0)
  | (none, e) => (eB, e)
def numberV (l : List En) (i : Int) : Int × Int := match rightS l i 2 with
  | (some x, _) => (x.f2, 0)
  | (none, e) => (0, e)
def classV (l : List En) (i : Int) : ByteArray × Int := match rightS l i 3 with
  | (some x, _) => (txtOf l x.f3, 0)
  | (none, e) => (eB, e)
def ptypeV (l : List En) (i : Int) : Int × ByteArray × Int := match rightS l i 4 with
  | (some x, _) => typeL (LL (txtOf l x.f3))
  | (none, e) => (0, eB, e)
def fieldV (l : List En) (i : Int) : ByteArray × ByteArray × Int × ByteArray × Int := match rightS l i 5 with
  | (some x, _) => if (classV l x.f3).2 = 0 then ((classV l x.f3).1, txtOf l x.f4, typeL (LL (txtOf l x.f5))) else (eB, eB, 0, eB, (classV l x.f3).2)
  | (none, e) => (eB, eB, 0, eB, e)
def methodV (l : List En) (i : Int) : ByteArray × ByteArray × SigV := match rightS l i 6 with
  | (some x, _) => if (classV l x.f3).2 = 0 then ((classV l x.f3).1, txtOf l x.f4, sigS (LL (txtOf l x.f5))) else (eB, eB, [], false, 0, eB, (classV l x.f3).2)
  | (none, e) => (eB, eB, [], false, 0, eB, e)
theorem text_f (l : List En) (hl : Small l) (i : Int) : Ev (fun k => pool_Text.f k l i) (textV l i) := by
  unfold textV
  rcases right_cases l i 1 with ⟨x, hr, hk, hw, h3⟩ | ⟨e, he, hr⟩ <;>
  · refine Ev.bind (right_f l hl i 1) ?_
    rw [hr]
    exact Ev.now _
theorem class_f (l : List En) (hl : Small l) (i : Int) : Ev (fun k => pool_Class.f k l i) (classV l i) := by
  unfold classV
  rcases right_cases l i 3 with ⟨x, hr, hk, hw, h3⟩ | ⟨e, he, hr⟩
  · obtain ⟨y, hy⟩ := use_class hw h3
    have hi := kindS_in hy
    refine Ev.bind (right_f l hl i 3) ?_
    rw [hr]
    exact Ev_pos rfl (Ev_pos hi.2.1 (Ev_pos hi.2.2.1 (Ev.now _)))
  · refine Ev.bind (right_f l hl i 3) ?_
    rw [hr]
    exact Ev_neg he (Ev.now _)
theorem small_txt {l : List En} (hl : Small l) {i : Int} {w : Int} {y : En} (h : kindS l i w = some y) : (txtOf l i).size ≤ 1000000000 := by
  have hi := kindS_in h
  unfold txtOf
  rw [rdE hi.2.1 hi.2.2.2.1]
  exact hl y hi.1
theorem field_f (l : List En) (hl : Small l) (i : Int) : Ev (fun k => pool_Field.f k l i) (fieldV l i) := by
  unfold fieldV
  rcases right_cases l i 5 with ⟨x, hr, hk, hw, h3⟩ | ⟨e, he, hr⟩
  · obtain ⟨_, ⟨y, hy⟩, z, hz⟩ := use_member hw (.inl h3)
    have hi := kindS_in hy
    have hj := kindS_in hz
    have hs := small_txt hl hz
    have hc := class_f l hl x.f3
    refine Ev.bind (right_f l hl i 5) ?_
    rw [hr]
    refine Ev_pos rfl (Ev.bind hc ?_)
    simp only [rightV]
    by_cases h0 : (classV l x.f3).2 = 0
    · rw [if_pos h0]
      exact Ev_pos h0 (Ev_pos hj.2.1 (Ev_pos hj.2.2.1 (Ev.bind (type_f (txtOf l x.f5) (by omega)) (Ev_pos hi.2.1 (Ev_pos hi.2.2.1 (Ev.now _))))))
    · rw [if_neg h0]
      exact Ev_neg h0 (Ev.now _)
  · refine Ev.bind (right_f l hl i 5) ?_
    rw [hr]
    exact Ev_neg he (Ev.now _)
theorem method_f (l : List En) (hl : Small l) (i : Int) : Ev (fun k => pool_Method.f k l i) (methodV l i) := by
  unfold methodV
  rcases right_cases l i 6 with ⟨x, hr, hk, hw, h3⟩ | ⟨e, he, hr⟩
  · obtain ⟨_, ⟨y, hy⟩, z, hz⟩ := use_member hw (.inr h3)
    have hi := kindS_in hy
    have hj := kindS_in hz
    have hs := small_txt hl hz
    have hc := class_f l hl x.f3
    refine Ev.bind (right_f l hl i 6) ?_
    rw [hr]
    refine Ev_pos rfl (Ev.bind hc ?_)
    simp only [rightV]
    by_cases h0 : (classV l x.f3).2 = 0
    · rw [if_pos h0]
      exact Ev_pos h0 (Ev_pos hj.2.1 (Ev_pos hj.2.2.1 (Ev.bind (dsig_f (txtOf l x.f5) (by omega)) (Ev_pos hi.2.1 (Ev_pos hi.2.2.1 (Ev.now _))))))
    · rw [if_neg h0]
      exact Ev_neg h0 (Ev.now _)
  · refine Ev.bind (right_f l hl i 6) ?_
    rw [hr]
    exact Ev_neg he (Ev.now _)
end Go.Proofs.YtldejfkplnejjaaDoor.Pure
namespace Go.Proofs.YtldejfkplnejjaaDoor.Pure
open Go.RowKit Go.Proofs.YtldejfkplnejjaaDoor.P Go.Proofs.YtldejfkplnejjaaDoorW.PrintWords Go.Proofs.YtldejfkplnejjaaDoor.Open
set_option linter.unusedVariables false
set_option linter.unusedVariables false
theorem number_f (l : List En) (hl : Small l) (i : Int) : Ev (fun k => pool_Number.f k l i) (numberV l i) := by
  unfold numberV
  rcases right_cases l i 2 with ⟨x, hr, hk, hw, h3⟩ | ⟨e, he, hr⟩ <;>
  · refine Ev.bind (right_f l hl i 2) ?_
    rw [hr]
    exact Ev.now _
theorem ptype_f (l : List En) (hl : Small l) (i : Int) : Ev (fun k => pool_Type.f k l i) (ptypeV l i) := by
  unfold ptypeV
  rcases right_cases l i 4 with ⟨x, hr, hk, hw, h3⟩ | ⟨e, he, hr⟩
  · obtain ⟨y, hy⟩ := use_type hw h3
    have hi := kindS_in hy
    have hs := small_txt hl hy
    refine Ev.bind (right_f l hl i 4) ?_
    rw [hr]
    refine Ev_pos rfl (Ev_pos hi.2.1 (Ev_pos hi.2.2.1 ?_))
    exact Ev.bind (type_f (txtOf l x.f3) (by omega)) (Ev.now _)
  · refine Ev.bind (right_f l hl i 4) ?_
    rw [hr]
    exact Ev_neg he (Ev.now _)
theorem typed_v {l : List En} {i : Int} (h : typedS l i = 0) : (typeL (LL (txtOf l i))).2.2 = 0 := by
  obtain ⟨y, hy⟩ := typed_0 h
  have hi := kindS_in hy
  unfold typedS at h
  rw [hy] at h
  unfold txtOf
  rw [rdE hi.2.1 hi.2.2.2.1]
  exact h
theorem signed_v {l : List En} {i : Int} (h : signedS l i = 0) : (sigS (LL (txtOf l i))).2.2.2.2 = 0 := by
  obtain ⟨y, hy⟩ := signed_0 h
  have hi := kindS_in hy
  unfold signedS at h
  rw [hy] at h
  unfold txtOf
  rw [rdE hi.2.1 hi.2.2.2.1]
  exact h
theorem field_typed {l : List En} {x : En} (h : wrongS l x = 0) (hk : x.f0 = 5) : typedS l x.f5 = 0 := by
  have hu := wrong_uses h
  obtain ⟨⟨c, hc⟩, _⟩ := use_member h (.inl hk)
  unfold usesS at hu
  rw [if_neg (by omega), if_neg (by omega), if_neg (by omega), if_neg (by omega), hc] at hu
  simp only at hu
  rw [if_neg (by omega)] at hu
  split at hu
  · exact hu
  · rename_i hn; exact absurd hu hn
theorem method_signed {l : List En} {x : En} (h : wrongS l x = 0) (hk : x.f0 = 6) : signedS l x.f5 = 0 := by
  have hu := wrong_uses h
  obtain ⟨⟨c, hc⟩, _⟩ := use_member h (.inr hk)
  unfold usesS at hu
  rw [if_neg (by omega), if_neg (by omega), if_neg (by omega), if_neg (by omega), hc] at hu
  simp only at hu
  rw [if_pos hk] at hu
  split at hu
  · exact hu
  · rename_i hn; exact absurd hu hn
theorem class_2 (l : List En) (i : Int) : (classV l i).2 = (rightS l i 3).2 := by
  unfold classV
  rcases right_cases l i 3 with ⟨x, hr, hk, hw, h3⟩ | ⟨e, he, hr⟩ <;> rw [hr]
set_option linter.unusedVariables false
theorem kindS_at {l : List En} {i w : Int} (h0 : 0 ≤ i) (h1 : i < l.length) : kindS l i w = if (rd_T50 l i).f0 = w then some (rd_T50 l i) else none := by
  obtain ⟨x, hx⟩ := at_of (l := l) (j := i.toNat) (by omega)
  unfold kindS
  rw [rdE h0 hx, if_pos h0, hx]
theorem right_k {l : List S50} (hr : AllR l) {i : Nat} (hi : i < l.length) (w : Int) : rightS l (i : Int) w = if (rd_T50 l (i : Int)).f0 = w then (some (rd_T50 l (i : Int)), 0) else (none, 16) := by
  unfold rightS
  rw [kindS_at (by omega) (by omega)]
  by_cases h : (rd_T50 l (i : Int)).f0 = w
  · rw [if_pos h, if_pos h]
    obtain ⟨x, hx⟩ := at_of (l := l) (j := i) hi
    have e : rd_T50 l (i : Int) = x := rdE (by omega) (by rw [Int.toNat_natCast]; exact hx)
    rw [e]
    exact if_pos (hr x (List.mem_of_getElem? hx))
  · rw [if_neg h, if_neg h]
theorem class_of_member {l : List S50} (hr : AllR l) {x : S50} (h : wrongS l x = 0) (hk : x.f0 = 5 ∨ x.f0 = 6) : (classV l x.f3).2 = 0 := by
  obtain ⟨⟨c, hc⟩, _⟩ := use_member h hk
  have hi := kindS_in hc
  rw [class_2]
  unfold rightS
  rw [hc]
  exact congrArg Prod.snd (if_pos (hr c hi.1))
theorem ev6 {l : List S50} (hs : Small l) (hr : AllR l) {i : Nat} (hi : i < l.length) : kindsAt l (i : Int) (rd_T50 l (i : Int)).f0 := by
  obtain ⟨K1, g1⟩ := text_f l hs (i : Int)
  obtain ⟨K2, g2⟩ := number_f l hs (i : Int)
  obtain ⟨K3, g3⟩ := class_f l hs (i : Int)
  obtain ⟨K4, g4⟩ := ptype_f l hs (i : Int)
  obtain ⟨K5, g5⟩ := field_f l hs (i : Int)
  obtain ⟨K6, g6⟩ := method_f l hs (i : Int)
  obtain ⟨k, k1, k2, k3, k4, k5, k6⟩ : ∃ k, K1 ≤ k ∧ K2 ≤ k ∧ K3 ≤ k ∧ K4 ≤ k ∧ K5 ≤ k ∧ K6 ≤ k := ⟨K1 + K2 + K3 + K4 + K5 + K6, by omega⟩
  have hw : wrongS l (rd_T50 l (i : Int)) = 0 := by
    obtain ⟨x, hx⟩ := at_of (l := l) (j := i) hi
    have e : rd_T50 l (i : Int) = x := rdE (by omega) (by rw [Int.toNat_natCast]; exact hx)
    rw [e]
    exact hr x (List.mem_of_getElem? hx)
  have e1 : (textV l (i : Int)).2 = er (rd_T50 l (i : Int)).f0 1 := by
    unfold textV er
    rw [right_k hr hi 1]
    by_cases h : (rd_T50 l (i : Int)).f0 = 1
    · rw [if_pos h, if_pos h]
    · rw [if_neg h, if_neg h]
  have e2 : (numberV l (i : Int)).2 = er (rd_T50 l (i : Int)).f0 2 := by
    unfold numberV er
    rw [right_k hr hi 2]
    by_cases h : (rd_T50 l (i : Int)).f0 = 2
    · rw [if_pos h, if_pos h]
    · rw [if_neg h, if_neg h]
  have e3 : (classV l (i : Int)).2 = er (rd_T50 l (i : Int)).f0 3 := by
    unfold classV er
    rw [right_k hr hi 3]
    by_cases h : (rd_T50 l (i : Int)).f0 = 3
    · rw [if_pos h, if_pos h]
    · rw [if_neg h, if_neg h]
  have e4 : (ptypeV l (i : Int)).2.2 = er (rd_T50 l (i : Int)).f0 4 := by
    unfold ptypeV er
    rw [right_k hr hi 4]
    by_cases h : (rd_T50 l (i : Int)).f0 = 4
    · rw [if_pos h, if_pos h]
      have hu := wrong_uses hw
      unfold usesS at hu
      rw [if_neg (by omega), if_neg (by omega), if_neg (by omega), if_pos h] at hu
      exact typed_v hu
    · rw [if_neg h, if_neg h]
  have e5 : (fieldV l (i : Int)).2.2.2.2 = er (rd_T50 l (i : Int)).f0 5 := by
    unfold fieldV er
    rw [right_k hr hi 5]
    by_cases h : (rd_T50 l (i : Int)).f0 = 5
    · rw [if_pos h, if_pos h]
      simp only
      rw [if_pos (class_of_member hr hw (.inl h))]
      exact typed_v (field_typed hw h)
    · rw [if_neg h, if_neg h]
  have e6 : (methodV l (i : Int)).2.2.2.2.2.2 = er (rd_T50 l (i : Int)).f0 6 := by
    unfold methodV er
    rw [right_k hr hi 6]
    by_cases h : (rd_T50 l (i : Int)).f0 = 6
    · rw [if_pos h, if_pos h]
      simp only
      rw [if_pos (class_of_member hr hw (.inr h))]
      exact signed_v (method_signed hw h)
    · rw [if_neg h, if_neg h]
  unfold kindsAt
  rw [← e1, ← e2, ← e3, ← e4, ← e5, ← e6]
  exact ⟨k, _, _, _, _, _, _, _, _, _, _, _, _, _, _, _, g1 k k1, g2 k k2, g3 k k3, g4 k k4, g5 k k5, g6 k k6⟩
theorem PoolKinds (a0 : List S50) (h0 : (∀ x_ ∈ a0, ok50 x_) ∧ a0.length ≤ maxLen ∧ a0.length * 56 ≤ 140737488351232) (B : (sumOf m50 a0 + 1) ≤ 1048576) : keystonelaw3_PoolKinds.f a0 = some true := by
  have hs : Small a0 := fun x hx => by
    have h := sumOf_mem (m := m50) hx
    unfold m50 at h
    have hB := B
    unfold m50 at hB
    omega
  unfold keystonelaw3_PoolKinds.f
  refine if_pos (fun _ => ?_)
  obtain ⟨K, hK⟩ := pcheck_f a0 hs
  exact ⟨K, (pcheckS a0).1, (pcheckS a0).2, hK K (Nat.le_refl _), fun he i hi => ev6 hs (pcheck_ok he).1 hi⟩
end Go.Proofs.YtldejfkplnejjaaDoor.Pure
