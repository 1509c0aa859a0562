/- Chapter 2 of the reference, plainly, as far as pools need it. -/
import Derived.Test.YtldejfkplnejjaaDoorPure3d
import Derived.Test.YtldejfkplnejjaaDoorP6
namespace Go.Proofs.YtldejfkplnejjaaDoor.Pure
open Go.RowKit Go.Proofs.YtldejfkplnejjaaDoor.P Go.Proofs.YtldejfkplnejjaaDoorW.PrintWords
set_option linter.unusedVariables false
theorem letterS_d {c : Int} (h : 48 ≤ c ∧ c ≤ 57) : letterS c false = true := by unfold letterS; rw [decide_eq_true h]; simp
theorem rname_l (s : ByteArray) (hs : s.size ≤ 140737488355328) : ∀ (d j : Nat), j + d = s.size →
    Ev (fun k => keystoneref2_Name.l0 k s (j : Int)) (allL (decide (j = 0)) ((LL s).drop j))
  | 0, j, hj => by
    refine Ev.step (fun k => by rw [keystoneref2_Name.l0]) (Ev_neg (by omega) ?_)
    rw [List.drop_of_length_le (by rw [LL_length]; omega)]
    exact Ev.now _
  | d + 1, j, hj => by
    obtain ⟨c, hc⟩ := at_of (l := LL s) (j := j) (by rw [LL_length]; omega)
    rw [drop_at hc, allL]
    have hb := bt_of hc
    have ih := rname_l s hs d (j + 1) (by omega)
    rw [show decide (j + 1 = 0) = false by simp] at ih
    generalize (c.toNat : Int) = b at hb
    refine Ev.step (fun k => by rw [keystoneref2_Name.l0, hb, show wrap64 ((j : Int) + 1) = ((j + 1 : Nat) : Int) by rw [w64] <;> omega]) (Ev_pos (by omega) (Ev_pos (by omega) ?_))
    by_cases h : (97 ≤ b ∧ b ≤ 122) ∨ (65 ≤ b ∧ b ≤ 90) ∨ b = 95
    · rw [letterS_t h, Bool.true_and]
      refine Ev_ite (fun h1 => Ev_ite (fun h2 => ih) (fun h2 => Ev_ite (fun h3 => Ev_ite (fun h4 => ih) (fun h4 => ?_)) (fun h3 => Ev_pos (by omega) ih))) (fun h1 => Ev_ite (fun h3 => Ev_ite (fun h4 => ih) (fun h4 => ?_)) (fun h3 => Ev_pos (by omega) ih))
      all_goals exfalso; omega
    · have rest : Ev (fun k => if b ≥ 48 then (if b ≤ 57 then (if (j : Int) > 0 then (keystoneref2_Name.l0 k s ((j + 1 : Nat) : Int)) else (some false)) else (some false)) else (some false)) (letterS b (decide (j = 0)) && allL false ((LL s).drop (j + 1))) := by
        by_cases hd : 48 ≤ b ∧ b ≤ 57
        · refine Ev_pos hd.1 (Ev_pos hd.2 ?_)
          by_cases h0 : j = 0
          · rw [decide_eq_true h0, letterS_n h (.inl rfl)]; exact Ev_neg (by omega) (Ev.now _)
          · rw [decide_eq_false h0, letterS_d hd, Bool.true_and]; exact Ev_pos (by omega) ih
        · rw [letterS_n h (.inr hd)]
          refine Ev_ite (fun h1 => Ev_neg (by omega) (Ev.now _)) (fun h1 => Ev.now _)
      refine Ev_ite (fun h1 => Ev_neg (by omega) (Ev_ite (fun h3 => Ev_neg (by omega) (Ev_neg (by omega) rest)) (fun h3 => Ev_neg (by omega) rest))) (fun h1 => Ev_ite (fun h3 => Ev_neg (by omega) (Ev_neg (by omega) rest)) (fun h3 => Ev_neg (by omega) rest))
theorem rname_j (s : ByteArray) (b : Bool) (hs : s.size ≤ 140737488355328) : Ev (fun k => keystoneref2_Name.j0 k s b) (if b = true then false else allL true (LL s)) := by
  refine Ev.step (fun k => by rw [keystoneref2_Name.j0]) ?_
  cases b with
  | true => exact Ev_pos rfl (Ev.now _)
  | false =>
    refine Ev_neg Bool.false_ne_true ?_
    have h := rname_l s hs s.size 0 (Nat.zero_add _)
    rwa [show decide (0 = 0) = true from rfl, List.drop_zero] at h
theorem rname_f (s : ByteArray) (hs : s.size ≤ 140737488355328) : Ev (fun k => keystoneref2_Name.f k s) (nm s) := by
  unfold keystoneref2_Name.f nm nmL
  rw [LL_length]
  by_cases h : (s.size : Int) < 1
  · have e : LL s = [] := List.length_eq_zero_iff.1 (by rw [LL_length]; omega)
    have := rname_j s true hs
    rw [if_pos rfl] at this
    rw [e, show (decide (([] : List UInt8) ≠ [])) = false from rfl, Bool.false_and, Bool.and_false]
    exact Ev_pos h this
  refine Ev_neg h ?_
  have hne : LL s ≠ [] := fun e => by have := LL_length s; rw [e] at this; simp at this; omega
  have := rname_j s (decide ((s.size : Int) > 32)) hs
  refine cast (congrArg _ ?_) this
  rw [decide_eq_true hne, Bool.true_and]
  by_cases h2 : (s.size : Int) > 32
  · rw [decide_eq_true h2, if_pos rfl, decide_eq_false (by omega), Bool.and_false]
  · rw [decide_eq_false h2, if_neg Bool.false_ne_true, decide_eq_true (by omega), Bool.and_true]
theorem semi_le (l : List UInt8) : semi l ≤ l.length := (List.takeWhile_sublist _).length_le
theorem takeWhile_all {p : UInt8 → Bool} : ∀ {l : List UInt8} {j : Nat}, j < (l.takeWhile p).length → ∃ c, l[j]? = some c ∧ p c = true
  | [], j, h => by simp at h
  | a :: l, j, h => by
    by_cases ha : p a = true
    · rw [List.takeWhile_cons_of_pos (p := p) ha, List.length_cons] at h
      cases j with
      | zero => exact ⟨a, rfl, ha⟩
      | succ j => exact takeWhile_all (l := l) (j := j) (by omega)
    · rw [List.takeWhile_cons_of_neg (p := p) ha] at h; simp at h
theorem takeWhile_end {p : UInt8 → Bool} : ∀ {l : List UInt8} {c : UInt8}, l[(l.takeWhile p).length]? = some c → p c = false
  | [], c, h => by simp at h
  | a :: l, c, h => by
    by_cases ha : p a = true
    · rw [List.takeWhile_cons_of_pos (p := p) ha, List.length_cons, List.getElem?_cons_succ] at h
      exact takeWhile_end (l := l) h
    · rw [List.takeWhile_cons_of_neg (p := p) ha] at h
      simp at h; subst h; simpa using ha
theorem brk_91 (t : List UInt8) : brk (91 :: t) = brk t + 1 := by unfold brk; rw [List.takeWhile_cons_of_pos (p := (· == (91 : UInt8))) rfl]; rfl
theorem brk_no {c : UInt8} (h : c ≠ 91) (t : List UInt8) : brk (c :: t) = 0 := by unfold brk; rw [List.takeWhile_cons_of_neg (p := (· == (91 : UInt8))) (by simpa using h)]; rfl
theorem u8_eq {c : UInt8} {n : Nat} (hn : n < 256) : ((c.toNat : Int) = (n : Int)) ↔ c = UInt8.ofNat n := by
  constructor
  · intro h
    apply UInt8.toNat_inj.1
    rw [UInt8.toNat_ofNat']
    omega
  · rintro rfl
    rw [UInt8.toNat_ofNat']
    omega
theorem semi_at (t : List UInt8) (h : semi t < t.length) : t[semi t]? = some 59 := by
  obtain ⟨c, hc⟩ := at_of (l := t) h
  have := takeWhile_end (p := (· != (59 : UInt8))) (l := t) (c := c) hc
  rw [hc]; simp at this; rw [this]
theorem first_rest {l : List UInt8} {n : Nat} {m r : List UInt8} (h : firstL l = some (n, m, r)) : ∃ p, p ++ r = l := by
  unfold firstL at h
  split at h
  · cases h
  · split at h
    · cases h
    · rename_i c t hd
      have hl : l = l.take (brk l) ++ c :: t := by rw [← hd, List.take_append_drop]
      split at h
      · simp only [Option.some.injEq, Prod.mk.injEq] at h
        obtain ⟨rfl, rfl, rfl⟩ := h
        exact ⟨l.take (brk l) ++ [c], by rw [List.append_assoc]; exact hl.symm⟩
      · split at h
        · split at h
          · simp only [Option.some.injEq, Prod.mk.injEq] at h
            obtain ⟨rfl, rfl, rfl⟩ := h
            refine ⟨l.take (brk l) ++ c :: t.take (semi t + 1), ?_⟩
            rw [List.append_assoc, List.cons_append, List.take_append_drop]
            exact hl.symm
          · cases h
        · cases h
def firstN (n : Nat) (l : List UInt8) : Option (Nat × List UInt8 × List UInt8) :=
  if 8 < n + brk l then none else match l.drop (brk l) with
    | [] => none
    | c :: t => if c = 73 then some (n + brk l, [], t) else if c = 76 then (if semi t < t.length ∧ nmL (t.take (semi t)) = true then some (n + brk l, t.take (semi t), t.drop (semi t + 1)) else none) else none
theorem firstN_0 (l : List UInt8) : firstN 0 l = firstL l := by unfold firstN firstL; simp only [Nat.zero_add]; rfl
theorem firstN_91 (n : Nat) (t : List UInt8) : firstN n (91 :: t) = firstN (n + 1) t := by
  unfold firstN
  rw [brk_91, List.drop_succ_cons, show n + (brk t + 1) = n + 1 + brk t by omega]
/-- What the document's reader tells: the type and the place behind it; or -1 beside anything. -/
def oneR (g : Int × ByteArray) (size : Nat) : Option (Nat × List UInt8 × List UInt8) → Int × ByteArray × Int
  | none => (g.1, g.2, -1)
  | some (n, m, r) => ((n : Int), BA m, ((size - r.length : Nat) : Int))
theorem scan_l (s : ByteArray) (hs : s.size ≤ 140737488355328) (a : Nat) (x : Int) (y : ByteArray) : ∀ (d e : Nat), e + d = semi ((LL s).drop (a + 1)) → a + 1 + semi ((LL s).drop (a + 1)) ≤ s.size →
    Ev (fun k => keystoneref2_one.l1 k s (a : Int) ((a + 1 + e : Nat) : Int) x y) (if semi ((LL s).drop (a + 1)) < ((LL s).drop (a + 1)).length ∧ nmL (((LL s).drop (a + 1)).take (semi ((LL s).drop (a + 1)))) = true then (x, BA (((LL s).drop (a + 1)).take (semi ((LL s).drop (a + 1)))), ((a + 1 + semi ((LL s).drop (a + 1)) + 1 : Nat) : Int)) else (x, y, -1)) 
  | 0, e, he, hle => by
    have hl := LL_length s
    have hdl : ((LL s).drop (a + 1)).length = s.size - (a + 1) := by rw [List.length_drop, hl]
    generalize ht : (LL s).drop (a + 1) = t at he hle hdl
    have hw : wrap64 ((a : Int) + 1) = ((a + 1 : Nat) : Int) := by rw [w64] <;> omega
    refine Ev.step (fun k => by rw [keystoneref2_one.l1, hw]) ?_
    by_cases h : semi t < t.length
    · have h59 : (LL s)[a + 1 + e]? = some 59 := by
        have := semi_at t h
        rw [← ht, List.getElem?_drop] at this
        rw [← ht] at he
        rwa [show a + 1 + e = a + 1 + semi ((LL s).drop (a + 1)) by omega]
      have hbt := bt_of h59
      have hex : s.extract (((a + 1 : Nat) : Int)).toNat (((a + 1 + e : Nat) : Int)).toNat = BA (t.take (semi t)) := by
        refine BA_eq ?_
        rw [LL_extract, Int.toNat_natCast, Int.toNat_natCast, ← ht]
        rw [← ht] at he
        rw [List.drop_take]
        congr 1
        omega
      rw [hex]
      refine Ev_pos (by omega) (Ev_pos (by omega) (Ev_pos (by rw [hbt]; rfl) (Ev_neg (by omega) (Ev_pos (by omega) (Ev_pos (by omega) (Ev_pos (by omega) (Ev.bind (rname_f _ (by rw [BA_size, List.length_take]; omega)) ?_)))))))
      have hnm : nm (BA (t.take (semi t))) = nmL (t.take (semi t)) := by unfold nm; rw [LL_BA]
      rw [hnm]
      by_cases h4 : nmL (t.take (semi t)) = true
      · refine Ev_pos h4 ?_
        rw [if_pos ⟨h, h4⟩, show wrap64 (((a + 1 + e : Nat) : Int) + 1) = ((a + 1 + semi t + 1 : Nat) : Int) by rw [w64] <;> omega]
        exact Ev.now _
      · refine Ev_neg h4 ?_
        rw [if_neg (fun hh => h4 hh.2)]
        exact Ev.now _
    · have hs2 := semi_le t
      refine Ev_neg (by omega) (Ev_pos (by omega) ?_)
      rw [if_neg (fun hh => h hh.1)]
      exact Ev.now _
  | d + 1, e, he, hle => by
    have hl := LL_length s
    have hdl : ((LL s).drop (a + 1)).length = s.size - (a + 1) := by rw [List.length_drop, hl]
    have ih := scan_l s hs a x y d (e + 1) (by omega) hle
    obtain ⟨c, hc, hp⟩ := takeWhile_all (p := (· != (59 : UInt8))) (l := (LL s).drop (a + 1)) (j := e) (by unfold semi at he; omega)
    have hs2 := semi_le ((LL s).drop (a + 1))
    rw [List.getElem?_drop] at hc
    have hbt := bt_of hc
    have hne : ¬ ((c.toNat : Int) = 59) := fun h => by
      have := (u8_eq (c := c) (n := 59) (by omega)).1 h
      subst this
      simp at hp
    refine Ev.step (fun k => by rw [keystoneref2_one.l1, hbt]) (Ev_pos (by omega) (Ev_pos (by omega) (Ev_neg hne ?_)))
    rw [show wrap64 (((a + 1 + e : Nat) : Int) + 1) = ((a + 1 + (e + 1) : Nat) : Int) by rw [w64] <;> omega]
    exact ih
theorem one_j (s : ByteArray) (hs : s.size ≤ 140737488355328) (a n : Nat) (hn : n ≤ 140737488355328) (ha : a ≤ s.size) (h0 : brk ((LL s).drop a) = 0) :
    ∃ g, Ev (fun k => keystoneref2_one.j1 k s (a : Int) (n : Int) ⟨#[]⟩) (oneR g s.size (firstN n ((LL s).drop a))) := by
  refine ⟨((n : Int), ⟨#[]⟩), ?_⟩
  have hl := LL_length s
  have hdl : ((LL s).drop a).length = s.size - a := by rw [List.length_drop, hl]
  have bad : Ev (fun k => keystoneref2_one.j2 k s (a : Int) true (n : Int) ⟨#[]⟩) (((n : Int), ⟨#[]⟩, -1) : Int × ByteArray × Int) := by
    refine Ev.step (fun k => by rw [keystoneref2_one.j2]) ?_
    exact Ev_pos rfl (Ev.now _)
  refine Ev.step (fun k => by rw [keystoneref2_one.j1]) ?_
  unfold firstN
  rw [h0, Nat.add_zero, List.drop_zero]
  by_cases h8 : 8 < n
  · rw [if_pos h8]; exact Ev_pos (by omega) bad
  rw [if_neg h8]
  refine Ev_neg (by omega) ?_
  by_cases hsz : a = s.size
  · rw [decide_eq_true (by omega)]
    have e : (LL s).drop a = [] := List.length_eq_zero_iff.1 (by omega)
    rw [e]
    exact bad
  rw [decide_eq_false (by omega)]
  obtain ⟨c, hc⟩ := at_of (l := LL s) (j := a) (by omega)
  have hd := drop_at hc
  have hbt := bt_of hc
  rw [hd]
  refine Ev.step (fun k => by rw [keystoneref2_one.j2, hbt]) (Ev_neg Bool.false_ne_true (Ev_pos (by omega) (Ev_pos (by omega) ?_)))
  simp only
  have hw : wrap64 ((a : Int) + 1) = ((a + 1 : Nat) : Int) := by rw [w64] <;> omega
  by_cases h1 : c = 73
  · subst h1
    rw [if_pos rfl]
    refine Ev_pos rfl (Ev_const ?_)
    rw [hw]
    simp only [oneR, List.length_drop, hl]
    rw [show s.size - (s.size - (a + 1)) = a + 1 by omega]; rfl
  rw [if_neg h1]
  refine Ev_neg (fun h => h1 ((u8_eq (n := 73) (by omega)).1 h)) ?_
  by_cases h2 : c = 76
  · subst h2
    rw [if_pos rfl]
    refine Ev_pos rfl ?_
    rw [hw]
    have hsm := semi_le ((LL s).drop (a + 1))
    have hdl2 : ((LL s).drop (a + 1)).length = s.size - (a + 1) := by rw [List.length_drop, hl]
    have := scan_l s hs a (n : Int) ⟨#[]⟩ _ 0 (Nat.zero_add _) (by omega)
    rw [Nat.add_zero] at this
    refine cast (congrArg _ ?_) this
    split
    · rename_i hh
      simp only [oneR, List.length_drop, hl]
      rw [show s.size - (s.size - (a + 1) - (semi ((LL s).drop (a + 1)) + 1)) = a + 1 + semi ((LL s).drop (a + 1)) + 1 by omega]
    · rfl
  · rw [if_neg h2]
    exact Ev_neg (fun h => h2 ((u8_eq (n := 76) (by omega)).1 h)) (Ev.now _)
theorem one_l (s : ByteArray) (hs : s.size ≤ 140737488355328) : ∀ (d a n : Nat), a + d = s.size → n ≤ a →
    ∃ g, Ev (fun k => keystoneref2_one.l0 k s (a : Int) (n : Int) ⟨#[]⟩) (oneR g s.size (firstN n ((LL s).drop a)))
  | 0, a, n, ha, hn => by
    have hl := LL_length s
    obtain ⟨g, hg⟩ := one_j s hs a n (by omega) (by omega) (by rw [List.drop_of_length_le (by omega)]; rfl)
    exact ⟨g, Ev.step (fun k => by rw [keystoneref2_one.l0]) (Ev_neg (by omega) hg)⟩
  | d + 1, a, n, ha, hn => by
    have hl := LL_length s
    obtain ⟨c, hc⟩ := at_of (l := LL s) (j := a) (by omega)
    have hd := drop_at hc
    have hbt := bt_of hc
    by_cases h : c = 91
    · obtain ⟨g, hg⟩ := one_l s hs d (a + 1) (n + 1) (by omega) (by omega)
      refine ⟨g, Ev.step (fun k => by rw [keystoneref2_one.l0, hbt]) (Ev_pos (by omega) (Ev_pos (by omega) (Ev_pos (by rw [h]; rfl) ?_)))⟩
      rw [show wrap64 ((a : Int) + 1) = ((a + 1 : Nat) : Int) by rw [w64] <;> omega, show wrap64 ((n : Int) + 1) = ((n + 1 : Nat) : Int) by rw [w64] <;> omega, hd, h, firstN_91]
      exact hg
    · obtain ⟨g, hg⟩ := one_j s hs a n (by omega) (by omega) (by rw [hd]; exact brk_no h _)
      refine ⟨g, Ev.step (fun k => by rw [keystoneref2_one.l0, hbt]) ?_⟩
      exact Ev_pos (by omega) (Ev_pos (by omega) (Ev_neg (fun e => h ((u8_eq (n := 91) (by omega)).1 e)) hg))
theorem one_f (s : ByteArray) (hs : s.size ≤ 140737488355328) (a : Nat) (ha : a ≤ s.size) : ∃ g, Ev (fun k => keystoneref2_one.f k s (a : Int)) (oneR g s.size (firstL ((LL s).drop a))) := by
  unfold keystoneref2_one.f
  rw [← firstN_0]
  exact one_l s hs (s.size - a) a 0 (by omega) (by omega)
theorem rtype_f (s : ByteArray) (hs : s.size ≤ 140737488355328) : Ev (fun k => keystoneref2_Type.f k s) (typeL (LL s)) := by
  unfold keystoneref2_Type.f typeL
  obtain ⟨g, hg⟩ := one_f s hs 0 (by omega)
  rw [List.drop_zero] at hg
  have hl := LL_length s
  refine Ev.bind hg ?_
  cases h : firstL (LL s) with
  | none => exact Ev_neg (show ¬ ((-1 : Int) = (s.size : Int)) by omega) (Ev.now _)
  | some q =>
    obtain ⟨n, m, r⟩ := q
    obtain ⟨h1, h2, h3⟩ := first_len h
    cases r with
    | nil => exact Ev_pos (show (((s.size - ([] : List UInt8).length : Nat) : Int) = (s.size : Int)) by simp) (Ev.now _)
    | cons x r => exact Ev_neg (show ¬ (((s.size - (x :: r).length : Nat) : Int) = (s.size : Int)) by simp only [List.length_cons] at h1 ⊢; omega) (Ev.now _)
theorem rsig_l : ∀ (f : Nat) (acc : List Ty) (s : ByteArray) (a : Nat), s.size ≤ a + f → a ≤ s.size → s.size ≤ 1000000000000 → acc.length + s.size ≤ 1000000000000 + a → Ev (fun k => keystoneref2_Sig.l0 k s (a : Int) acc false 0 ⟨#[]⟩) (sigP f acc ((LL s).drop a))
  | f, acc, s, a, hf, ha, hs, hacc => by
    have hl := LL_length s
    have hdl : ((LL s).drop a).length = s.size - a := by rw [List.length_drop, hl]
    have hw : wrap64 ((a : Int) + 1) = ((a + 1 : Nat) : Int) := by rw [w64] <;> omega
    refine Ev.step (fun k => by rw [keystoneref2_Sig.l0]) ?_
    match hu : (LL s).drop a, f with
    | [], f =>
      rw [hu] at hdl
      simp only [List.length_nil] at hdl
      refine Ev_neg (by omega) (Ev.step (fun k => by rw [keystoneref2_Sig.j2]) (Ev_neg Bool.false_ne_true (Ev_pos (by omega) ?_)))
      cases f <;> exact Ev.now _
    | c :: t, 0 => rw [hu] at hdl; simp at hdl; omega
    | c :: t, f + 1 =>
      rw [hu] at hdl
      simp only [List.length_cons] at hdl
      have hc : (LL s)[a]? = some c := by
        have : ((LL s).drop a)[0]? = some c := by rw [hu]; rfl
        rw [List.getElem?_drop] at this
        exact this
      have hd := drop_at hc
      rw [hu] at hd
      have ht : t = (LL s).drop (a + 1) := by injection hd
      have hbt := bt_of hc
      refine Ev_pos (by omega) (Ev_pos (by omega) ?_)
      by_cases h41 : c = 41
      · have e : (bt s (a : Int) != 41) = false := by rw [hbt, h41]; rfl
        rw [e]
        refine Ev.step (fun k => by rw [keystoneref2_Sig.j2, hw]) (Ev_neg Bool.false_ne_true (Ev_neg (by omega) (Ev_pos (by omega) (Ev_pos (by omega) ?_))))
        have hx : s.extract (((a + 1 : Nat) : Int)).toNat s.size = BA t := by rw [Int.toNat_natCast, extract_BA, ← ht]
        rw [hx]
        simp only [sigP]
        rw [if_pos h41]
        unfold sigE
        by_cases hv : t = [86]
        · rw [if_pos hv]
          refine Ev_pos (by rw [toList_LL, LL_BA]; exact hv) ?_
          by_cases h16 : 16 < acc.length
          · exact Ev_pos (by omega) (by rw [if_pos h16]; exact Ev.now _)
          · exact Ev_neg (by omega) (by rw [if_neg h16]; exact Ev.now _)
        · rw [if_neg hv]
          refine Ev_neg (by rw [toList_LL, LL_BA]; exact hv) (Ev.bind (rtype_f _ (by rw [BA_size]; omega)) ?_)
          rw [LL_BA]
          unfold typeL
          cases hfl : firstL t with
          | none => exact Ev_neg (by simp) (Ev.now _)
          | some q =>
            obtain ⟨n, m, r⟩ := q
            cases r with
            | nil =>
              refine Ev_pos rfl ?_
              by_cases h16 : 16 < acc.length
              · exact Ev_pos (by omega) (by simp only; rw [if_pos h16]; exact Ev.now _)
              · exact Ev_neg (by omega) (by simp only; rw [if_neg h16]; exact Ev.now _)
            | cons x r => exact Ev_neg (by simp) (Ev.now _)
      · have e : (bt s (a : Int) != 41) = true := by
          rw [hbt]
          simp only [bne_iff_ne, ne_eq]
          exact fun h => h41 ((u8_eq (n := 41) (by omega)).1 h)
        rw [e]
        obtain ⟨g, hg⟩ := one_f s (by omega) a ha
        rw [hu] at hg
        refine Ev.step (fun k => by rw [keystoneref2_Sig.j2]) (Ev_pos rfl (Ev.bind hg ?_))
        simp only [sigP]
        rw [if_neg h41]
        cases hfl : firstL (c :: t) with
        | none => exact Ev_pos (show (-1 : Int) < 0 by omega) (Ev.now _)
        | some q =>
          obtain ⟨n, m, r⟩ := q
          obtain ⟨h1, h2, h3⟩ := first_len hfl
          have hr := first_rest hfl
          simp only [List.length_cons] at h1
          refine Ev_neg (show ¬ (((s.size - r.length : Nat) : Int) < 0) by omega) (Ev_pos (by omega) ?_)
          have ih := rsig_l f (acc ++ [⟨(n : Int), BA m⟩]) s (s.size - r.length) (by omega) (by omega) hs (by simp; omega)
          have e2 : (LL s).drop (s.size - r.length) = r := by
            obtain ⟨p, hp⟩ := hr
            have e3 : LL s = ((LL s).take a ++ p) ++ r := by rw [List.append_assoc, hp, ← hu, List.take_append_drop]
            have e4 : s.size - r.length = ((LL s).take a ++ p).length := by
              have := congrArg List.length e3
              rw [List.length_append, hl] at this
              omega
            rw [e4]
            exact (congrArg (List.drop _) e3).trans List.drop_left
          rw [e2] at ih
          exact ih
theorem rsig_f (s : ByteArray) (hs : s.size ≤ 1000000000000) : Ev (fun k => keystoneref2_Sig.f k s) (sigS (LL s)) := by
  unfold keystoneref2_Sig.f
  have hl := LL_length s
  cases hu : LL s with
  | nil =>
    refine Ev_pos (by rw [toList_LL, hu]) (Ev.step (fun k => by rw [keystoneref2_Sig.j0]) ?_)
    exact Ev_pos rfl (Ev.now _)
  | cons c t =>
    rw [hu] at hl
    simp only [List.length_cons] at hl
    have hc : (LL s)[0]? = some c := by rw [hu]; rfl
    have hbt : bt s 0 = (c.toNat : Int) := bt_of hc
    refine Ev_neg (by rw [toList_LL, hu]; simp) (Ev_pos (by omega) ?_)
    by_cases h : c = 40
    · have e : (bt s 0 != 40) = false := by rw [hbt, h]; rfl
      rw [e]
      refine Ev.step (fun k => by rw [keystoneref2_Sig.j0]) (Ev_neg Bool.false_ne_true ?_)
      have := rsig_l t.length [] s 1 (by omega) (by omega) hs (by simp; omega)
      rw [hu, h] at *
      exact this
    · have e : (bt s 0 != 40) = true := by
        rw [hbt]
        simp only [bne_iff_ne, ne_eq]
        exact fun h' => h ((u8_eq (n := 40) (by omega)).1 h')
      rw [e]
      refine Ev.step (fun k => by rw [keystoneref2_Sig.j0]) (Ev_pos rfl ?_)
      have e : sigS (c :: t) = ([], false, 0, ⟨#[]⟩, 15) := by
        unfold sigS
        split
        · rename_i h2; simp at h2; exact absurd h2.1 h
        · rfl
      rw [e]
      exact Ev.now _
theorem rmethod_f (s : ByteArray) (hs : s.size ≤ 140737488355328) : Ev (fun k => keystoneref2_Method.f k s) (mth s) := by
  unfold keystoneref2_Method.f mth
  by_cases h : isInit s
  · rw [if_pos h]; exact Ev_pos h (Ev.now _)
  · rw [if_neg h]; exact Ev_neg h (Ev.bind (rname_f s hs) (Ev.now _))
end Go.Proofs.YtldejfkplnejjaaDoor.Pure
