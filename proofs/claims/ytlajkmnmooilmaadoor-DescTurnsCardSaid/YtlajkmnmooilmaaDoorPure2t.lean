/- Chapter 2, plainly: signatures written and compared. What is written is read, what is read is written. -/
import Derived.Test.YtlajkmnmooilmaaDoorPure2s
import Derived.Test.YtlajkmnmooilmaaDoorP13
import Derived.Test.YtlajkmnmooilmaaDoorP14
import Derived.Test.YtlajkmnmooilmaaDoorP17
import Derived.Test.YtlajkmnmooilmaaDoorP19
namespace Go.Proofs.YtlajkmnmooilmaaDoor.Pure
open Go.RowKit Go.Proofs.YtlajkmnmooilmaaDoor.P Go.Proofs.YtlajkmnmooilmaaDoorW.PrintWords
set_option linter.unusedVariables false
/-! ### written -/
def parE : List Ty → Int
  | [] => 0
  | t :: l => if chk t.f0 t.f1 = 0 then parE l else chk t.f0 t.f1
def parT : List Ty → List UInt8
  | [] => []
  | t :: l => textL t.f0.toNat (LL t.f1) ++ parT l
theorem parT_append : ∀ a b : List Ty, parT (a ++ b) = parT a ++ parT b
  | [], b => rfl
  | t :: a, b => by rw [List.cons_append, parT, parT, parT_append a b, List.append_assoc]
theorem textL_len (d : Int) (s : ByteArray) (h : chk d s = 0) : (textL d.toNat (LL s)).length ≤ 50 := by
  obtain ⟨h0, h1, h2, h3⟩ := chk_0 h
  have hl := LL_length s
  unfold textL bodyL
  rw [List.length_append, List.length_replicate]
  split <;> simp <;> omega
theorem parT_len : ∀ l : List Ty, parE l = 0 → (parT l).length ≤ 50 * l.length
  | [], _ => Nat.zero_le _
  | t :: l, h => by
    unfold parE at h
    split at h
    · rename_i hc
      have := textL_len _ _ hc
      have := parT_len l h
      simp only [parT, List.length_append, List.length_cons]
      omega
    · rename_i hc; exact absurd h hc
theorem parE_append : ∀ a b : List Ty, parE a = 0 → parE (a ++ b) = parE b
  | [], b, _ => rfl
  | t :: a, b, h => by
    unfold parE at h
    split at h
    · rename_i hc
      rw [List.cons_append, parE, if_pos hc]
      exact parE_append a b h
    · rename_i hc; exact absurd h hc
def sigT (ps : List Ty) (v : Bool) (d : Int) (m : ByteArray) : ByteArray × Int :=
  if 16 < ps.length then (⟨#[]⟩, 4) else if parE ps = 0 then
    (if v = true then (if d = 0 ∧ LL m = [] then (BA (40 :: parT ps ++ [41, 86]), 0) else (⟨#[]⟩, 1))
     else if chk d m = 0 then (BA (40 :: parT ps ++ 41 :: textL d.toNat (LL m)), 0) else (⟨#[]⟩, chk d m))
  else (⟨#[]⟩, parE ps)
theorem sigT_16 {ps : List Ty} {v : Bool} {d : Int} {m : ByteArray} (h : 16 < ps.length) : sigT ps v d m = (⟨#[]⟩, 4) := by unfold sigT; rw [if_pos h]
theorem sigT_e {ps : List Ty} {v : Bool} {d : Int} {m : ByteArray} (h : ps.length ≤ 16) (hp : parE ps ≠ 0) : sigT ps v d m = (⟨#[]⟩, parE ps) := by unfold sigT; rw [if_neg (Nat.not_lt.2 h), if_neg hp]
theorem sigT_t0 {ps : List Ty} {d : Int} {m : ByteArray} (h : ps.length ≤ 16) (hp : parE ps = 0) (h0 : d = 0 ∧ LL m = []) : sigT ps true d m = (BA (40 :: parT ps ++ [41, 86]), 0) := by unfold sigT; rw [if_neg (Nat.not_lt.2 h), if_pos hp, if_pos rfl, if_pos h0]
theorem sigT_t1 {ps : List Ty} {d : Int} {m : ByteArray} (h : ps.length ≤ 16) (hp : parE ps = 0) (h0 : ¬ (d = 0 ∧ LL m = [])) : sigT ps true d m = (⟨#[]⟩, 1) := by unfold sigT; rw [if_neg (Nat.not_lt.2 h), if_pos hp, if_pos rfl, if_neg h0]
theorem sigT_f0 {ps : List Ty} {d : Int} {m : ByteArray} (h : ps.length ≤ 16) (hp : parE ps = 0) (h0 : chk d m = 0) : sigT ps false d m = (BA (40 :: parT ps ++ 41 :: textL d.toNat (LL m)), 0) := by unfold sigT; rw [if_neg (Nat.not_lt.2 h), if_pos hp, if_neg Bool.false_ne_true, if_pos h0]
theorem sigT_f1 {ps : List Ty} {d : Int} {m : ByteArray} (h : ps.length ≤ 16) (hp : parE ps = 0) (h0 : chk d m ≠ 0) : sigT ps false d m = (⟨#[]⟩, chk d m) := by unfold sigT; rw [if_neg (Nat.not_lt.2 h), if_pos hp, if_neg Bool.false_ne_true, if_neg h0]
theorem textS_0 {d : Int} {m : ByteArray} (h0 : chk d m = 0) : textS d m = (BA (textL d.toNat (LL m)), 0) := by unfold textS; rw [if_pos h0]
theorem textS_1 {d : Int} {m : ByteArray} (h0 : chk d m ≠ 0) : textS d m = (⟨#[]⟩, chk d m) := by unfold textS; rw [if_neg h0]
theorem res0 (d : Int) (m : ByteArray) : (!(d == 0) || (!(m.toList == ([] : List UInt8)))) = !(decide (d = 0 ∧ LL m = [])) := by
  rw [toList_LL]
  by_cases h : d = 0 <;> by_cases h' : LL m = [] <;> simp [h, h']
theorem put41 (l r : List UInt8) : (BA l ++ (⟨#[41]⟩ : ByteArray)) ++ BA r = BA (l ++ 41 :: r) := by
  rw [show (⟨#[41]⟩ : ByteArray) = BA [41] from rfl, BA_append, BA_append, List.append_assoc]; rfl
theorem rdT (ps : List Ty) {j : Nat} {t : Ty} (h : ps[j]? = some t) : rd_T26 ps (j : Int) = t := getD_at rfl h
theorem dsigt_e (ps : List Ty) (v : Bool) (d : Int) (m : ByteArray) (hm : m.size ≤ 140737488355328) (h16 : ps.length ≤ 16) (hp : parE ps = 0) : Ev (fun k => desc_SigText.j1 k (BA (40 :: parT ps)) (if v = true then !(decide (d = 0 ∧ LL m = [])) else false) ps v d m) (sigT ps v d m) := by
  have hpl := parT_len ps hp
  refine Ev.step (fun k => by rw [desc_SigText.j1]) ?_
  have s1 : (BA (40 :: parT ps)).size ≤ 1000 := by rw [BA_size, List.length_cons]; omega
  have s2 : (BA (40 :: parT ps) ++ (⟨#[41]⟩ : ByteArray)).size ≤ 1001 := by rw [ByteArray.size_append]; exact Nat.add_le_add s1 (Nat.le_refl 1)
  cases v with
  | true =>
    by_cases h0 : d = 0 ∧ LL m = []
    · rw [if_pos rfl, decide_eq_true h0, sigT_t0 h16 hp h0]
      have hm0 : m = ⟨#[]⟩ := LL_inj h0.2
      obtain ⟨rfl, _⟩ := h0
      subst hm0
      refine Ev_neg (by simp) (Ev.bind (dtext_f _ _ (by decide)) ?_)
      refine Ev_pos (show (textS 0 ⟨#[]⟩).2 = 0 by decide +kernel) (Ev_pos rfl (Ev_pos (by omega) (Ev_pos (by omega) (Ev_const ?_))))
      rw [show (⟨#[86]⟩ : ByteArray) = BA [86] from rfl, put41]
    · rw [if_pos rfl, decide_eq_false h0, sigT_t1 h16 hp h0]
      exact Ev_pos rfl (Ev.now _)
  | false =>
    refine Ev_neg (by simp) (Ev.bind (dtext_f _ _ hm) ?_)
    by_cases hc : chk d m = 0
    · rw [textS_0 hc, sigT_f0 h16 hp hc]
      have := textL_len _ _ hc
      exact Ev_pos rfl (Ev_neg Bool.false_ne_true (Ev_pos (by omega) (Ev_pos (by simp only [BA_size] at *; omega) (Ev_const (by rw [put41])))))
    · rw [textS_1 hc, sigT_f1 h16 hp hc]
      exact Ev_neg hc (Ev.now _)
theorem dsigt_l (v : Bool) (d : Int) (m : ByteArray) (hm : m.size ≤ 140737488355328) (ps : List Ty) (hz : ∀ t ∈ ps, t.f1.size ≤ 140737488355328) (h16 : ps.length ≤ 16) : ∀ (c : Nat) (a b : List Ty), b.length = c → ps = a ++ b → parE a = 0 →
    Ev (fun k => desc_SigText.l0 k (BA (40 :: parT a)) ps (ps.length : Int) (a.length : Int) ps v d m) (sigT ps v d m)
  | 0, a, b, hc, hab, ha => by
    have hb : b = [] := List.length_eq_zero_iff.1 hc
    subst hb
    rw [List.append_nil] at hab
    subst hab
    have h := dsigt_e ps v d m hm h16 ha
    refine Ev.step (fun k => by rw [desc_SigText.l0]) (Ev_neg (by omega) ?_)
    cases v with
    | true => exact Ev_pos rfl (by rw [res0]; exact h)
    | false => exact Ev_neg Bool.false_ne_true h
  | c + 1, a, [], hc, hab, ha => by simp at hc
  | c + 1, a, t :: b, hc, hab, ha => by
    have hlen : ps.length = a.length + (b.length + 1) := by rw [hab]; simp
    have hat : ps[a.length]? = some t := by rw [hab]; simp
    have hin : t ∈ ps := by rw [hab]; simp
    have hpl := parT_len a ha
    have hw : wrap64 ((a.length : Int) + 1) = ((a ++ [t]).length : Int) := by rw [w64 (by omega) (by omega)]; simp
    refine Ev.step (fun k => by rw [desc_SigText.l0, rdT ps hat, hw]) (Ev_pos (by omega) (Ev_pos (by omega) (Ev_pos (by omega) (Ev.bind (dtext_f _ _ (hz t hin)) ?_))))
    by_cases hk : chk t.f0 t.f1 = 0
    · rw [textS_0 hk]
      have := textL_len _ _ hk
      refine Ev_pos rfl (Ev_pos (by simp only [BA_size, List.length_cons]; omega) ?_)
      have ih := dsigt_l v d m hm ps hz h16 c (a ++ [t]) b (by simpa using hc) (by rw [hab]; simp) (by rw [parE_append a _ ha, parE, if_pos hk]; rfl)
      rw [parT_append, show parT [t] = textL t.f0.toNat (LL t.f1) by simp [parT]] at ih
      rw [BA_append]
      exact ih
    · rw [textS_1 hk]
      have e : parE ps = chk t.f0 t.f1 := by rw [hab, parE_append a _ ha, parE, if_neg hk]
      rw [sigT_e h16 (by rw [e]; exact hk), e]
      exact Ev_neg hk (Ev.now _)
theorem dsigt_f (ps : List Ty) (v : Bool) (d : Int) (m : ByteArray) (hm : m.size ≤ 140737488355328) (hz : ∀ t ∈ ps, t.f1.size ≤ 140737488355328) : Ev (fun k => desc_SigText.f k ps v d m) (sigT ps v d m) := by
  unfold desc_SigText.f
  by_cases h16 : 16 < ps.length
  · rw [sigT_16 h16]; exact Ev_pos (by omega) (Ev.now _)
  · exact Ev_neg (by omega) (dsigt_l v d m hm ps hz (by omega) _ [] ps rfl rfl rfl)
/-! ### compared -/
def tyE (a b : Ty) : Bool := a.f0 == b.f0 && (a.f1.toList == b.f1.toList)
def sameL : List Ty → List Ty → Bool
  | [], [] => true
  | a :: l, b :: r => tyE a b && sameL l r
  | _, _ => false
def sameS (ps : List Ty) (v : Bool) (d : Int) (m : ByteArray) (qs : List Ty) (w : Bool) (e : Int) (n : ByteArray) : Bool := (v == w) && ((d == e && (m.toList == n.toList)) && sameL ps qs)
theorem tyE_iff (a b : Ty) : tyE a b = true ↔ a = b := by
  cases a; cases b
  simp only [tyE, Bool.and_eq_true, beq_iff_eq, ← bytes_eq, S26.mk.injEq]
theorem sameL_iff : ∀ l r : List Ty, sameL l r = true ↔ l = r
  | [], [] => by simp [sameL]
  | [], b :: r => by simp [sameL]
  | a :: l, [] => by simp [sameL]
  | a :: l, b :: r => by rw [sameL, Bool.and_eq_true, tyE_iff, sameL_iff l r, List.cons.injEq]
theorem sameS_iff (ps : List Ty) (v : Bool) (d : Int) (m : ByteArray) (qs : List Ty) (w : Bool) (e : Int) (n : ByteArray) : sameS ps v d m qs w e n = true ↔ v = w ∧ d = e ∧ m = n ∧ ps = qs := by
  simp only [sameS, Bool.and_eq_true, sameL_iff, beq_iff_eq, ← bytes_eq, and_assoc]
theorem sameL_len {l r : List Ty} (h : l.length ≠ r.length) : sameL l r = false := by
  cases hs : sameL l r with
  | false => rfl
  | true => exact absurd (congrArg List.length ((sameL_iff l r).1 hs)) h
theorem tyE_n (a b : Ty) : (!(a.f0 == b.f0) || (!((a.f1.toList) == (b.f1.toList)))) = !tyE a b := by
  unfold tyE
  rw [Bool.not_and]
theorem equal_l (l r : List Ty) (hlr : l.length = r.length) (hb : l.length ≤ 140737488355328) : ∀ (c j : Nat), j + c = l.length → Ev (fun k => api_Type_50.l0 k l r (l.length : Int) (j : Int)) (sameL (l.drop j) (r.drop j))
  | 0, j, hj => by
    rw [List.drop_of_length_le (by omega), List.drop_of_length_le (by omega)]
    refine Ev.step (fun k => by rw [api_Type_50.l0]) ?_
    exact Ev_neg (by omega) (Ev.now _)
  | c + 1, j, hj => by
    obtain ⟨x, hx⟩ := at_of (l := l) (j := j) (by omega)
    obtain ⟨y, hy⟩ := at_of (l := r) (j := j) (by omega)
    rw [drop_at hx, drop_at hy, sameL]
    refine Ev.step (fun k => by rw [api_Type_50.l0, rdT l hx, rdT r hy, tyE_n]) (Ev_pos (by omega) (Ev_pos (by omega) (Ev_pos (by omega) (Ev_pos (by omega) ?_))))
    cases ht : tyE x y with
    | true =>
      refine Ev_neg (by simp) ?_
      rw [show wrap64 ((j : Int) + 1) = ((j + 1 : Nat) : Int) by rw [w64] <;> omega, Bool.true_and]
      exact equal_l l r hlr hb c (j + 1) (by omega)
    | false => exact Ev_pos rfl (Ev.now _)
theorem equal_f (l r : List Ty) (hb : l.length ≤ 140737488355328) : Ev (fun k => api_Type_50.f k l r) (sameL l r) := by
  unfold api_Type_50.f
  by_cases h : l.length = r.length
  · exact Ev_pos (by omega) (equal_l l r h hb l.length 0 (Nat.zero_add _))
  · exact Ev_neg (by omega) (by rw [sameL_len h]; exact Ev.now _)
theorem dsame_f (ps : List Ty) (v : Bool) (d : Int) (m : ByteArray) (qs : List Ty) (w : Bool) (e : Int) (n : ByteArray) (hb : ps.length ≤ 140737488355328) : Ev (fun k => desc_Same.f k ps v d m qs w e n) (sameS ps v d m qs w e n) := by
  unfold desc_Same.f sameS
  cases h1 : (v == w) with
  | false => exact Ev_neg Bool.false_ne_true (Ev.now _)
  | true =>
    refine Ev_pos rfl ?_
    cases h2 : (d == e && (m.toList == n.toList)) with
    | false => exact Ev_neg Bool.false_ne_true (Ev.now _)
    | true =>
      refine Ev_pos rfl ?_
      exact Ev.bind (equal_f ps qs hb) (Ev.now _)
theorem brk_rep (l : List UInt8) : ∀ n : Nat, brk (List.replicate n 91 ++ l) = n + brk l
  | 0 => by simp
  | n + 1 => by rw [List.replicate_succ, List.cons_append, brk_91, brk_rep l n]; omega
theorem take_brk : ∀ l : List UInt8, l.take (brk l) = List.replicate (brk l) 91
  | [] => rfl
  | c :: l => by
    by_cases h : c = 91
    · rw [h, brk_91, List.take_succ_cons, take_brk l, List.replicate_succ]
    · rw [brk_no h]; rfl
theorem letter_59 (f : Bool) : letterS 59 f = false := by cases f <;> decide
theorem allL_59 : ∀ (f : Bool) (l : List UInt8), allL f l = true → ∀ c ∈ l, (c != 59) = true
  | f, [], _, c, hc => by cases hc
  | f, x :: l, h, c, hc => by
    rw [allL, Bool.and_eq_true] at h
    rcases List.mem_cons.1 hc with rfl | hc
    · rw [bne_iff_ne]
      rintro rfl
      have := letter_59 f
      rw [show (((59 : UInt8).toNat : Nat) : Int) = 59 from rfl, this] at h
      exact absurd h.1 Bool.false_ne_true
    · exact allL_59 false l h.2 c hc
theorem semi_put (m r : List UInt8) (h : ∀ c ∈ m, (c != 59) = true) : semi (m ++ 59 :: r) = m.length := by
  unfold semi
  rw [List.takeWhile_append_of_pos h, List.takeWhile_cons_of_neg (by simp), List.append_nil]
theorem first_text (d : Int) (s : ByteArray) (h : chk d s = 0) (r : List UInt8) : firstL (textL d.toNat (LL s) ++ r) = some (d.toNat, LL s, r) := by
  obtain ⟨h0, h1, h2, h3⟩ := chk_0 h
  rw [toList_LL] at h3
  unfold textL bodyL
  by_cases hm : LL s = []
  · rw [if_pos hm, List.append_assoc]
    unfold firstL
    rw [brk_rep, show brk ([73] ++ r) = 0 from brk_no (by decide) _, Nat.add_zero, if_neg (by omega), List.drop_left' (by simp)]
    simp only [List.cons_append, List.nil_append, if_true]
    rw [hm]
  · have hnm : nmL (LL s) = true := by rcases h3 with h3 | h3; · exact absurd h3 hm
                                       · exact h3
    have h59 : ∀ c ∈ LL s, (c != 59) = true := allL_59 true _ (by unfold nmL at hnm; rw [Bool.and_eq_true] at hnm; exact hnm.1)
    rw [if_neg hm, List.append_assoc]
    unfold firstL
    rw [show 76 :: LL s ++ [59] ++ r = 76 :: (LL s ++ 59 :: r) by simp]
    rw [brk_rep, show brk (76 :: (LL s ++ 59 :: r)) = 0 from brk_no (by decide) _, Nat.add_zero, if_neg (by omega), List.drop_left' (by simp)]
    simp only
    rw [if_neg (by decide), if_pos trivial, semi_put _ _ h59]
    rw [List.take_left' rfl, show LL s ++ 59 :: r = (LL s ++ [59]) ++ r by simp, List.drop_left' (by simp), if_pos ⟨by simp, hnm⟩]
theorem text_first {l m r : List UInt8} {n : Nat} (h : firstL l = some (n, m, r)) : chk (n : Int) (BA m) = 0 ∧ textL n m ++ r = l := by
  have hlen := first_len h
  unfold firstL at h
  split at h
  · cases h
  · rename_i h8
    split at h
    · cases h
    · rename_i c t hd
      have hl : l = List.replicate (brk l) 91 ++ c :: t := by rw [← take_brk, ← hd, List.take_append_drop]
      split at h
      · rename_i h73
        simp only [Option.some.injEq, Prod.mk.injEq] at h
        obtain ⟨rfl, rfl, rfl⟩ := h
        refine ⟨?_, ?_⟩
        · unfold chk
          rw [if_neg (by omega)]
          simp [toList_LL, LL_BA]
        · unfold textL bodyL
          rw [if_pos rfl, List.append_assoc]
          rw [h73] at hl
          exact hl.symm
      · split at h
        · rename_i h76
          split at h
          · rename_i hh
            simp only [Option.some.injEq, Prod.mk.injEq] at h
            obtain ⟨rfl, rfl, rfl⟩ := h
            have hne : t.take (semi t) ≠ [] := by
              have := hh.2
              unfold nmL at this
              simp only [Bool.and_eq_true, decide_eq_true_eq] at this
              exact this.2.1
            refine ⟨?_, ?_⟩
            · unfold chk
              rw [if_neg (by omega), toList_LL, LL_BA]
              have : nm (BA (t.take (semi t))) = true := by unfold nm; rw [LL_BA]; exact hh.2
              simp [this]
            · unfold textL bodyL
              rw [if_neg hne]
              have h59 := drop_at (semi_at t hh.1)
              have ht : t.take (semi t) ++ 59 :: t.drop (semi t + 1) = t := by rw [← h59, List.take_append_drop]
              rw [h76] at hl
              rw [List.append_assoc, show 76 :: t.take (semi t) ++ [59] ++ t.drop (semi t + 1) = 76 :: (t.take (semi t) ++ 59 :: t.drop (semi t + 1)) by simp, ht]
              exact hl.symm
          · cases h
        · cases h
theorem type_text (d : Int) (s : ByteArray) (h : chk d s = 0) : typeL (textL d.toNat (LL s)) = (d, s, 0) := by
  have := first_text d s h []
  rw [List.append_nil] at this
  unfold typeL
  rw [this]
  simp only
  rw [BA_LL, Int.toNat_of_nonneg (chk_0 h).1]
theorem text_type {l : List UInt8} (h : (typeL l).2.2 = 0) : textS (typeL l).1 (typeL l).2.1 = (BA l, 0) := by
  unfold typeL at h ⊢
  cases hf : firstL l with
  | none => rw [hf] at h; exact absurd h (by simp)
  | some q =>
    obtain ⟨n, m, r⟩ := q
    rw [hf] at h
    cases r with
    | cons x r => exact absurd h (by simp)
    | nil =>
      obtain ⟨h1, h2⟩ := text_first hf
      unfold textS
      simp only
      rw [if_pos h1, LL_BA, Int.toNat_natCast]
      rw [List.append_nil] at h2
      rw [h2]
theorem textL_head (n : Nat) (m : List UInt8) : ∃ c t, textL n m = c :: t ∧ c ≠ 41 ∧ c ≠ 86 := by
  unfold textL bodyL
  cases n with
  | zero =>
    by_cases h : m = []
    · exact ⟨73, [], by simp [h], by decide, by decide⟩
    · exact ⟨76, m ++ [59], by simp [h], by decide, by decide⟩
  | succ n => exact ⟨91, _, by rw [List.replicate_succ, List.cons_append], by decide, by decide⟩
theorem sigP_text (e : List UInt8) : ∀ (ps : List Ty) (f : Nat) (acc : List Ty), parE ps = 0 → (parT ps).length < f → sigP f acc (parT ps ++ 41 :: e) = sigE (acc ++ ps) e
  | [], 0, acc, _, hf => by simp at hf
  | [], f + 1, acc, _, hf => by simp [parT, sigP]
  | t :: ps, 0, acc, _, hf => by simp at hf
  | t :: ps, f + 1, acc, hp, hf => by
    obtain ⟨c, r, hc, h41, _⟩ := textL_head t.f0.toNat (LL t.f1)
    unfold parE at hp
    split at hp
    · rename_i hk
      have h1 := first_text t.f0 t.f1 hk (parT ps ++ 41 :: e)
      rw [parT, List.append_assoc]
      rw [parT, List.length_append, hc, List.length_cons] at hf
      rw [hc, List.cons_append] at h1 ⊢
      simp only [sigP]
      rw [if_neg h41, h1]
      simp only
      rw [sigP_text e ps f _ hp (by omega), BA_LL, Int.toNat_of_nonneg (chk_0 hk).1, List.append_assoc]
      rfl
    · rename_i hk; exact absurd hp hk
theorem sig_text (ps : List Ty) (v : Bool) (d : Int) (m : ByteArray) (h : (sigT ps v d m).2 = 0) : sigS (LL (sigT ps v d m).1) = (ps, v, d, m, 0) := by
  unfold sigT at h ⊢
  by_cases h16 : 16 < ps.length
  · rw [if_pos h16] at h; exact absurd h (by simp)
  rw [if_neg h16] at h ⊢
  by_cases hp : parE ps = 0
  · rw [if_pos hp] at h ⊢
    have main : ∀ e, sigS (40 :: (parT ps ++ 41 :: e)) = sigE ps e := fun e => by
      show sigP (parT ps ++ 41 :: e).length [] (parT ps ++ 41 :: e) = _
      rw [sigP_text e ps _ [] hp (by simp)]; rfl
    cases v with
    | true =>
      rw [if_pos rfl] at h ⊢
      by_cases h0 : d = 0 ∧ LL m = []
      · rw [if_pos h0] at h ⊢
        simp only
        rw [LL_BA, show 40 :: parT ps ++ [41, 86] = 40 :: (parT ps ++ 41 :: [86]) by simp, main]
        unfold sigE
        rw [if_pos rfl, if_neg h16, h0.1, show m = ⟨#[]⟩ from LL_inj h0.2]
      · rw [if_neg h0] at h; exact absurd h (by simp)
    | false =>
      rw [if_neg Bool.false_ne_true] at h ⊢
      by_cases hc : chk d m = 0
      · rw [if_pos hc] at h ⊢
        simp only
        rw [LL_BA, List.cons_append, main]
        unfold sigE
        obtain ⟨c, r, hc', _, h86⟩ := textL_head d.toNat (LL m)
        have hf := first_text d m hc []
        rw [List.append_nil] at hf
        rw [if_neg (by rw [hc']; simp [h86]), hf]
        simp only
        rw [if_neg h16, BA_LL, Int.toNat_of_nonneg (chk_0 hc).1]
      · rw [if_neg hc] at h; exact absurd h hc
  · rw [if_neg hp] at h; exact absurd h hp
theorem text_sigP : ∀ (f : Nat) (acc : List Ty) (l : List UInt8) (ps : List Ty) (v : Bool) (d : Int) (m : ByteArray), parE acc = 0 → sigP f acc l = (ps, v, d, m, 0) → sigT ps v d m = (BA (40 :: (parT acc ++ l)), 0)
  | 0, acc, [], ps, v, d, m, ha, h => by simp [sigP] at h
  | f + 1, acc, [], ps, v, d, m, ha, h => by simp [sigP] at h
  | 0, acc, c :: t, ps, v, d, m, ha, h => by simp [sigP] at h
  | f + 1, acc, c :: t, ps, v, d, m, ha, h => by
    simp only [sigP] at h
    by_cases hc : c = 41
    · rw [if_pos hc] at h
      unfold sigE at h
      by_cases hv : t = [86]
      · rw [if_pos hv] at h
        by_cases h16 : 16 < acc.length
        · rw [if_pos h16] at h; simp at h
        · rw [if_neg h16] at h
          simp only [Prod.mk.injEq] at h
          obtain ⟨rfl, rfl, rfl, rfl, _⟩ := h
          unfold sigT
          rw [if_neg h16, if_pos ha, if_pos rfl, if_pos ⟨rfl, rfl⟩, hc, hv]
          rfl
      · rw [if_neg hv] at h
        cases hf : firstL t with
        | none => rw [hf] at h; simp at h
        | some q =>
          obtain ⟨n, m', r⟩ := q
          rw [hf] at h
          cases r with
          | cons x r => simp at h
          | nil =>
            simp only at h
            by_cases h16 : 16 < acc.length
            · rw [if_pos h16] at h; simp at h
            · rw [if_neg h16] at h
              simp only [Prod.mk.injEq] at h
              obtain ⟨rfl, rfl, rfl, rfl, _⟩ := h
              obtain ⟨h1, h2⟩ := text_first hf
              rw [List.append_nil] at h2
              unfold sigT
              rw [if_neg h16, if_pos ha, if_neg Bool.false_ne_true, if_pos h1, LL_BA, Int.toNat_natCast, h2, hc, List.cons_append]
    · rw [if_neg hc] at h
      cases hf : firstL (c :: t) with
      | none => rw [hf] at h; simp at h
      | some q =>
        obtain ⟨n, m', r⟩ := q
        rw [hf] at h
        simp only at h
        obtain ⟨h1, h2⟩ := text_first hf
        have ih := text_sigP f _ r ps v d m (by rw [parE_append acc _ ha, parE, if_pos h1]; rfl) h
        rw [ih, parT_append, show parT [(⟨(n : Int), BA m'⟩ : Ty)] = textL n m' by simp [parT, LL_BA], List.append_assoc, h2]
theorem text_sig {l : List UInt8} {ps : List Ty} {v : Bool} {d : Int} {m : ByteArray} (h : sigS l = (ps, v, d, m, 0)) : sigT ps v d m = (BA l, 0) := by
  unfold sigS at h
  split at h
  · exact text_sigP _ [] _ _ _ _ _ rfl h
  · simp at h
theorem twin_f (ps : List Ty) (v : Bool) (d : Int) (m : ByteArray) (h : ps.length < 5864062014805) : keystonelaw2_twin.f ps v d m = some (ps, v, d, m) := by
  show (if ([] : List Ty).length + ps.length < 5864062014805 then _ else none) = _
  rw [if_pos (by simpa using h)]
  rfl
theorem few_f (ps : List Ty) (v : Bool) (d : Int) (m : ByteArray) : keystonelaw2_few.f ps v d m = some (decide ((ps.length : Int) < 100)) := rfl
theorem sigE_len (acc : List Ty) (r : List UInt8) : (sigE acc r).1.length ≤ 16 := by
  unfold sigE
  repeat' split
  all_goals simp only [List.length_nil] <;> omega
theorem sigP_len : ∀ (f : Nat) (acc : List Ty) (l : List UInt8), (sigP f acc l).1.length ≤ 16
  | 0, acc, [] => by simp [sigP]
  | f + 1, acc, [] => by simp [sigP]
  | 0, acc, c :: t => by simp [sigP]
  | f + 1, acc, c :: t => by
    simp only [sigP]
    split
    · exact sigE_len _ _
    · split
      · simp
      · exact sigP_len f _ _
theorem sigS_len (l : List UInt8) : (sigS l).1.length ≤ 16 := by
  unfold sigS
  split
  · exact sigP_len _ _ _
  · simp
theorem sameS_refl (ps : List Ty) (v : Bool) (d : Int) (m : ByteArray) : sameS ps v d m ps v d m = true := (sameS_iff _ _ _ _ _ _ _ _).2 ⟨rfl, rfl, rfl, rfl⟩
theorem sigE_size (acc : List Ty) (r : List UInt8) : (sigE acc r).2.2.2.1.size ≤ 32 := by
  unfold sigE
  split
  · split <;> exact Nat.zero_le _
  · split
    · rename_i h
      have := first_len h
      split
      · exact Nat.zero_le _
      · simp only [BA_size]; omega
    · exact Nat.zero_le _
theorem sigE_in (acc : List Ty) (r : List UInt8) : ∀ t ∈ (sigE acc r).1, t ∈ acc := by
  unfold sigE
  repeat' split
  all_goals first | (intro t ht; exact ht) | (intro t ht; simp at ht)
theorem sigP_size : ∀ (f : Nat) (acc : List Ty) (l : List UInt8), (∀ t ∈ acc, t.f1.size ≤ 32) → (∀ t ∈ (sigP f acc l).1, t.f1.size ≤ 32) ∧ (sigP f acc l).2.2.2.1.size ≤ 32
  | 0, acc, [], h => ⟨fun t ht => by simp [sigP] at ht, Nat.zero_le _⟩
  | f + 1, acc, [], h => ⟨fun t ht => by simp [sigP] at ht, Nat.zero_le _⟩
  | 0, acc, c :: t, h => ⟨fun t ht => by simp [sigP] at ht, Nat.zero_le _⟩
  | f + 1, acc, c :: t, h => by
    simp only [sigP]
    split
    · exact ⟨fun t ht => h t (sigE_in _ _ t ht), sigE_size _ _⟩
    · split
      · exact ⟨fun t ht => by simp at ht, Nat.zero_le _⟩
      · rename_i n m r hf
        have := first_len hf
        exact sigP_size f _ _ (fun t ht => by
          rcases List.mem_append.1 ht with ht | ht
          · exact h t ht
          · rw [List.mem_singleton.1 ht]; simp only [BA_size]; omega)
theorem sigS_size (l : List UInt8) : (∀ t ∈ (sigS l).1, t.f1.size ≤ 32) ∧ (sigS l).2.2.2.1.size ≤ 32 := by
  unfold sigS
  split
  · exact sigP_size _ _ _ (fun t ht => by simp at ht)
  · exact ⟨fun t ht => by simp at ht, Nat.zero_le _⟩
theorem ok_in {g : S32} (h : ok32 g) : (∀ t ∈ g.f0, t.f1.size ≤ 140737488355328) ∧ g.f2.f1.size ≤ 140737488355328 := by
  refine ⟨fun t ht => ?_, ?_⟩
  · have := (h.1.1 t ht).2; omega
  · have := h.2.2.2; omega
end Go.Proofs.YtlajkmnmooilmaaDoor.Pure
