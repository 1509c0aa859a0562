/- Chapter 2, plainly: signatures written and compared. -/
import Derived.Test.YtlajkmnmooilmaaDoorPure2s
import Derived.Test.YtlajkmnmooilmaaDoorPure2c
import Derived.Test.YtlajkmnmooilmaaDoorP14
import Derived.Test.YtlajkmnmooilmaaDoorP19
namespace Go.Proofs.YtlajkmnmooilmaaDoor.Pure
open Go.RowKit Go.Proofs.YtlajkmnmooilmaaDoor.P Go.Proofs.YtlajkmnmooilmaaDoorW.PrintWords
set_option linter.unusedVariables false
/-! ### written -/
def parE : List Ty → Int
  | [] => 0
  | t :: l => if chk t.f0 t.f1 = 0 then parE l else chk t.f0 t.f1
def parT : List Ty → List UInt8
  | [] => []
  | t :: l => textL t.f0.toNat (LL t.f1) ++ parT l
theorem parT_append : ∀ a b : List Ty, parT (a ++ b) = parT a ++ parT b
  | [], b => rfl
  | t :: a, b => by rw [List.cons_append, parT, parT, parT_append a b, List.append_assoc]
theorem textL_len (d : Int) (s : ByteArray) (h : chk d s = 0) : (textL d.toNat (LL s)).length ≤ 50 := by
  obtain ⟨h0, h1, h2, h3⟩ := chk_0 h
  have hl := LL_length s
  unfold textL bodyL
  rw [List.length_append, List.length_replicate]
  split <;> simp <;> omega
theorem parT_len : ∀ l : List Ty, parE l = 0 → (parT l).length ≤ 50 * l.length
  | [], _ => Nat.zero_le _
  | t :: l, h => by
    unfold parE at h
    split at h
    · rename_i hc
      have := textL_len _ _ hc
      have := parT_len l h
      simp only [parT, List.length_append, List.length_cons]
      omega
    · rename_i hc; exact absurd h hc
theorem parE_append : ∀ a b : List Ty, parE a = 0 → parE (a ++ b) = parE b
  | [], b, _ => rfl
  | t :: a, b, h => by
    unfold parE at h
    split at h
    · rename_i hc
      rw [List.cons_append, parE, if_pos hc]
      exact parE_append a b h
    · rename_i hc; exact absurd h hc
def sigT (ps : List Ty) (v : Bool) (d : Int) (m : ByteArray) : ByteArray × Int :=
  if 16 < ps.length then (⟨#[]⟩, 4) else if parE ps = 0 then
    (if v = true then (if d = 0 ∧ LL m = [] then (BA (40 :: parT ps ++ [41, 86]), 0) else (⟨#[]⟩, 1))
     else if chk d m = 0 then (BA (40 :: parT ps ++ 41 :: textL d.toNat (LL m)), 0) else (⟨#[]⟩, chk d m))
  else (⟨#[]⟩, parE ps)
theorem sigT_16 {ps : List Ty} {v : Bool} {d : Int} {m : ByteArray} (h : 16 < ps.length) : sigT ps v d m = (⟨#[]⟩, 4) := by unfold sigT; rw [if_pos h]
theorem sigT_e {ps : List Ty} {v : Bool} {d : Int} {m : ByteArray} (h : ps.length ≤ 16) (hp : parE ps ≠ 0) : sigT ps v d m = (⟨#[]⟩, parE ps) := by unfold sigT; rw [if_neg (Nat.not_lt.2 h), if_neg hp]
theorem sigT_t0 {ps : List Ty} {d : Int} {m : ByteArray} (h : ps.length ≤ 16) (hp : parE ps = 0) (h0 : d = 0 ∧ LL m = []) : sigT ps true d m = (BA (40 :: parT ps ++ [41, 86]), 0) := by unfold sigT; rw [if_neg (Nat.not_lt.2 h), if_pos hp, if_pos rfl, if_pos h0]
theorem sigT_t1 {ps : List Ty} {d : Int} {m : ByteArray} (h : ps.length ≤ 16) (hp : parE ps = 0) (h0 : ¬ (d = 0 ∧ LL m = [])) : sigT ps true d m = (⟨#[]⟩, 1) := by unfold sigT; rw [if_neg (Nat.not_lt.2 h), if_pos hp, if_pos rfl, if_neg h0]
theorem sigT_f0 {ps : List Ty} {d : Int} {m : ByteArray} (h : ps.length ≤ 16) (hp : parE ps = 0) (h0 : chk d m = 0) : sigT ps false d m = (BA (40 :: parT ps ++ 41 :: textL d.toNat (LL m)), 0) := by unfold sigT; rw [if_neg (Nat.not_lt.2 h), if_pos hp, if_neg Bool.false_ne_true, if_pos h0]
theorem sigT_f1 {ps : List Ty} {d : Int} {m : ByteArray} (h : ps.length ≤ 16) (hp : parE ps = 0) (h0 : chk d m ≠ 0) : sigT ps false d m = (⟨#[]⟩, chk d m) := by unfold sigT; rw [if_neg (Nat.not_lt.2 h), if_pos hp, if_neg Bool.false_ne_true, if_neg h0]
theorem textS_0 {d : Int} {m : ByteArray} (h0 : chk d m = 0) : textS d m = (BA (textL d.toNat (LL m)), 0) := by unfold textS; rw [if_pos h0]
theorem textS_1 {d : Int} {m : ByteArray} (h0 : chk d m ≠ 0) : textS d m = (⟨#[]⟩, chk d m) := by unfold textS; rw [if_neg h0]
theorem res0 (d : Int) (m : ByteArray) : (!(d == 0) || (!(m.toList == ([] : List UInt8)))) = !(decide (d = 0 ∧ LL m = [])) := by
  rw [toList_LL]
  by_cases h : d = 0 <;> by_cases h' : LL m = [] <;> simp [h, h']
theorem put41 (l r : List UInt8) : (BA l ++ (⟨#[41]⟩ : ByteArray)) ++ BA r = BA (l ++ 41 :: r) := by
  rw [show (⟨#[41]⟩ : ByteArray) = BA [41] from rfl, BA_append, BA_append, List.append_assoc]; rfl
theorem rdT (ps : List Ty) {j : Nat} {t : Ty} (h : ps[j]? = some t) : rd_T26 ps (j : Int) = t := getD_at rfl h
theorem dsigt_e (ps : List Ty) (v : Bool) (d : Int) (m : ByteArray) (hm : m.size ≤ 140737488355328) (h16 : ps.length ≤ 16) (hp : parE ps = 0) : Ev (fun k => desc_SigText.j1 k (BA (40 :: parT ps)) (if v = true then !(decide (d = 0 ∧ LL m = [])) else false) ps v d m) (sigT ps v d m) := by
  have hpl := parT_len ps hp
  refine Ev.step (fun k => by rw [desc_SigText.j1]) ?_
  have s1 : (BA (40 :: parT ps)).size ≤ 1000 := by rw [BA_size, List.length_cons]; omega
  have s2 : (BA (40 :: parT ps) ++ (⟨#[41]⟩ : ByteArray)).size ≤ 1001 := by rw [ByteArray.size_append]; exact Nat.add_le_add s1 (Nat.le_refl 1)
  cases v with
  | true =>
    by_cases h0 : d = 0 ∧ LL m = []
    · rw [if_pos rfl, decide_eq_true h0, sigT_t0 h16 hp h0]
      have hm0 : m = ⟨#[]⟩ := LL_inj h0.2
      obtain ⟨rfl, _⟩ := h0
      subst hm0
      refine Ev_neg (by simp) (Ev.bind (dtext_f _ _ (by decide)) ?_)
      refine Ev_pos (show (textS 0 ⟨#[]⟩).2 = 0 by decide +kernel) (Ev_pos rfl (Ev_pos (by omega) (Ev_pos (by omega) (Ev_const ?_))))
      rw [show (⟨#[86]⟩ : ByteArray) = BA [86] from rfl, put41]
    · rw [if_pos rfl, decide_eq_false h0, sigT_t1 h16 hp h0]
      exact Ev_pos rfl (Ev.now _)
  | false =>
    refine Ev_neg (by simp) (Ev.bind (dtext_f _ _ hm) ?_)
    by_cases hc : chk d m = 0
    · rw [textS_0 hc, sigT_f0 h16 hp hc]
      have := textL_len _ _ hc
      exact Ev_pos rfl (Ev_neg Bool.false_ne_true (Ev_pos (by omega) (Ev_pos (by simp only [BA_size] at *; omega) (Ev_const (by rw [put41])))))
    · rw [textS_1 hc, sigT_f1 h16 hp hc]
      exact Ev_neg hc (Ev.now _)
theorem dsigt_l (v : Bool) (d : Int) (m : ByteArray) (hm : m.size ≤ 140737488355328) (ps : List Ty) (hz : ∀ t ∈ ps, t.f1.size ≤ 140737488355328) (h16 : ps.length ≤ 16) : ∀ (c : Nat) (a b : List Ty), b.length = c → ps = a ++ b → parE a = 0 →
    Ev (fun k => desc_SigText.l0 k (BA (40 :: parT a)) ps (ps.length : Int) (a.length : Int) ps v d m) (sigT ps v d m)
  | 0, a, b, hc, hab, ha => by
    have hb : b = [] := List.length_eq_zero_iff.1 hc
    subst hb
    rw [List.append_nil] at hab
    subst hab
    have h := dsigt_e ps v d m hm h16 ha
    refine Ev.step (fun k => by rw [desc_SigText.l0]) (Ev_neg (by omega) ?_)
    cases v with
    | true => exact Ev_pos rfl (by rw [res0]; exact h)
    | false => exact Ev_neg Bool.false_ne_true h
  | c + 1, a, [], hc, hab, ha => by simp at hc
  | c + 1, a, t :: b, hc, hab, ha => by
    have hlen : ps.length = a.length + (b.length + 1) := by rw [hab]; simp
    have hat : ps[a.length]? = some t := by rw [hab]; simp
    have hin : t ∈ ps := by rw [hab]; simp
    have hpl := parT_len a ha
    have hw : wrap64 ((a.length : Int) + 1) = ((a ++ [t]).length : Int) := by rw [w64 (by omega) (by omega)]; simp
    refine Ev.step (fun k => by rw [desc_SigText.l0, rdT ps hat, hw]) (Ev_pos (by omega) (Ev_pos (by omega) (Ev_pos (by omega) (Ev.bind (dtext_f _ _ (hz t hin)) ?_))))
    by_cases hk : chk t.f0 t.f1 = 0
    · rw [textS_0 hk]
      have := textL_len _ _ hk
      refine Ev_pos rfl (Ev_pos (by simp only [BA_size, List.length_cons]; omega) ?_)
      have ih := dsigt_l v d m hm ps hz h16 c (a ++ [t]) b (by simpa using hc) (by rw [hab]; simp) (by rw [parE_append a _ ha, parE, if_pos hk]; rfl)
      rw [parT_append, show parT [t] = textL t.f0.toNat (LL t.f1) by simp [parT]] at ih
      rw [BA_append]
      exact ih
    · rw [textS_1 hk]
      have e : parE ps = chk t.f0 t.f1 := by rw [hab, parE_append a _ ha, parE, if_neg hk]
      rw [sigT_e h16 (by rw [e]; exact hk), e]
      exact Ev_neg hk (Ev.now _)
theorem dsigt_f (ps : List Ty) (v : Bool) (d : Int) (m : ByteArray) (hm : m.size ≤ 140737488355328) (hz : ∀ t ∈ ps, t.f1.size ≤ 140737488355328) : Ev (fun k => desc_SigText.f k ps v d m) (sigT ps v d m) := by
  unfold desc_SigText.f
  by_cases h16 : 16 < ps.length
  · rw [sigT_16 h16]; exact Ev_pos (by omega) (Ev.now _)
  · exact Ev_neg (by omega) (dsigt_l v d m hm ps hz (by omega) _ [] ps rfl rfl rfl)
/-! ### compared -/
def tyE (a b : Ty) : Bool := a.f0 == b.f0 && (a.f1.toList == b.f1.toList)
def sameL : List Ty → List Ty → Bool
  | [], [] => true
  | a :: l, b :: r => tyE a b && sameL l r
  | _, _ => false
def sameS (ps : List Ty) (v : Bool) (d : Int) (m : ByteArray) (qs : List Ty) (w : Bool) (e : Int) (n : ByteArray) : Bool := (v == w) && ((d == e && (m.toList == n.toList)) && sameL ps qs)
theorem tyE_iff (a b : Ty) : tyE a b = true ↔ a = b := by
  cases a; cases b
  simp only [tyE, Bool.and_eq_true, beq_iff_eq, ← bytes_eq, S26.mk.injEq]
theorem sameL_iff : ∀ l r : List Ty, sameL l r = true ↔ l = r
  | [], [] => by simp [sameL]
  | [], b :: r => by simp [sameL]
  | a :: l, [] => by simp [sameL]
  | a :: l, b :: r => by rw [sameL, Bool.and_eq_true, tyE_iff, sameL_iff l r, List.cons.injEq]
theorem sameS_iff (ps : List Ty) (v : Bool) (d : Int) (m : ByteArray) (qs : List Ty) (w : Bool) (e : Int) (n : ByteArray) : sameS ps v d m qs w e n = true ↔ v = w ∧ d = e ∧ m = n ∧ ps = qs := by
  simp only [sameS, Bool.and_eq_true, sameL_iff, beq_iff_eq, ← bytes_eq, and_assoc]
theorem sameL_len {l r : List Ty} (h : l.length ≠ r.length) : sameL l r = false := by
  cases hs : sameL l r with
  | false => rfl
  | true => exact absurd (congrArg List.length ((sameL_iff l r).1 hs)) h
theorem tyE_n (a b : Ty) : (!(a.f0 == b.f0) || (!((a.f1.toList) == (b.f1.toList)))) = !tyE a b := by
  unfold tyE
  rw [Bool.not_and]
theorem equal_l (l r : List Ty) (hlr : l.length = r.length) (hb : l.length ≤ 140737488355328) : ∀ (c j : Nat), j + c = l.length → Ev (fun k => api_Type_50.l0 k l r (l.length : Int) (j : Int)) (sameL (l.drop j) (r.drop j))
  | 0, j, hj => by
    rw [List.drop_of_length_le (by omega), List.drop_of_length_le (by omega)]
    refine Ev.step (fun k => by rw [api_Type_50.l0]) ?_
    exact Ev_neg (by omega) (Ev.now _)
  | c + 1, j, hj => by
    obtain ⟨x, hx⟩ := at_of (l := l) (j := j) (by omega)
    obtain ⟨y, hy⟩ := at_of (l := r) (j := j) (by omega)
    rw [drop_at hx, drop_at hy, sameL]
    refine Ev.step (fun k => by rw [api_Type_50.l0, rdT l hx, rdT r hy, tyE_n]) (Ev_pos (by omega) (Ev_pos (by omega) (Ev_pos (by omega) (Ev_pos (by omega) ?_))))
    cases ht : tyE x y with
    | true =>
      refine Ev_neg (by simp) ?_
      rw [show wrap64 ((j : Int) + 1) = ((j + 1 : Nat) : Int) by rw [w64] <;> omega, Bool.true_and]
      exact equal_l l r hlr hb c (j + 1) (by omega)
    | false => exact Ev_pos rfl (Ev.now _)
theorem equal_f (l r : List Ty) (hb : l.length ≤ 140737488355328) : Ev (fun k => api_Type_50.f k l r) (sameL l r) := by
  unfold api_Type_50.f
  by_cases h : l.length = r.length
  · exact Ev_pos (by omega) (equal_l l r h hb l.length 0 (Nat.zero_add _))
  · exact Ev_neg (by omega) (by rw [sameL_len h]; exact Ev.now _)
theorem dsame_f (ps : List Ty) (v : Bool) (d : Int) (m : ByteArray) (qs : List Ty) (w : Bool) (e : Int) (n : ByteArray) (hb : ps.length ≤ 140737488355328) : Ev (fun k => desc_Same.f k ps v d m qs w e n) (sameS ps v d m qs w e n) := by
  unfold desc_Same.f sameS
  cases h1 : (v == w) with
  | false => exact Ev_neg Bool.false_ne_true (Ev.now _)
  | true =>
    refine Ev_pos rfl ?_
    cases h2 : (d == e && (m.toList == n.toList)) with
    | false => exact Ev_neg Bool.false_ne_true (Ev.now _)
    | true =>
      refine Ev_pos rfl ?_
      exact Ev.bind (equal_f ps qs hb) (Ev.now _)
end Go.Proofs.YtlajkmnmooilmaaDoor.Pure
