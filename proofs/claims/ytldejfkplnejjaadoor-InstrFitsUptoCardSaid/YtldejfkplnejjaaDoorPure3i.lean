/- Chapter 4, plainly, as far as checks need it: sizes, reading. -/
import Derived.Test.YtldejfkplnejjaaDoorPureA
import Derived.Test.YtldejfkplnejjaaDoorKinds
import Derived.Laws.BitsLemmas
import Derived.Test.YtldejfkplnejjaaDoorP13
import Derived.Test.YtldejfkplnejjaaDoorP14
namespace Go.Proofs.YtldejfkplnejjaaDoor.Pure
open Go.RowKit Go.Proofs.YtldejfkplnejjaaDoor.P Go.Proofs.YtldejfkplnejjaaDoorW.PrintWords
set_option linter.unusedVariables false
def size (op : Int) : Int := if op < 0 ∨ 45 < op then 0 else if op = 3 ∨ op = 4 then 2 else if op = 1 ∨ (19 ≤ op ∧ op ≤ 30) ∨ (36 ≤ op ∧ op ≤ 41) then 3 else 1
theorem jumps_f (a : Int) : instr_jumps.f a = some (decide (19 ≤ a ∧ a ≤ 24)) := by
  unfold instr_jumps.f
  split <;> simp <;> omega
theorem wide_f (a : Int) : instr_wide.f a = some (decide (a = 1 ∨ (19 ≤ a ∧ a ≤ 30) ∨ (36 ≤ a ∧ a ≤ 41))) := by
  unfold instr_wide.f
  rw [jumps_f]
  simp only [Option.bind_some]
  by_cases h : a = 1 ∨ (19 ≤ a ∧ a ≤ 30) ∨ (36 ≤ a ∧ a ≤ 41)
  · rw [decide_eq_true h]
    by_cases h2 : 19 ≤ a ∧ a ≤ 24
    · rw [decide_eq_true h2]; simp only [ite_self]
    · have h3 : a = 1 ∨ a = 25 ∨ a = 26 ∨ a = 27 ∨ a = 28 ∨ a = 29 ∨ a = 30 ∨ a = 36 ∨ a = 37 ∨ a = 38 ∨ a = 39 ∨ a = 40 ∨ a = 41 := by omega
      rcases h3 with rfl | rfl | rfl | rfl | rfl | rfl | rfl | rfl | rfl | rfl | rfl | rfl | rfl <;> rfl
  · rw [decide_eq_false h, decide_eq_false (show ¬ (19 ≤ a ∧ a ≤ 24) by omega)]
    rw [if_neg (by omega), if_neg (by omega), if_neg (by omega), if_neg (by omega), if_neg (by omega), if_neg (by omega), if_neg (by omega), if_neg (by omega), if_neg (by omega), if_neg (by omega), if_neg (by omega), if_neg (by omega), if_neg (by omega)]
theorem size_f (op : Int) : Ev (fun k => instr_Size.f k op) (size op) := by
  refine Ev_at 1 (fun m => ?_)
  simp only [instr_Size.f, instr_Size.j0, wide_f, Option.bind_some]
  unfold size
  by_cases h0 : op < 0 <;> by_cases h1 : 45 < op <;> by_cases h2 : op = 1 ∨ (19 ≤ op ∧ op ≤ 30) ∨ (36 ≤ op ∧ op ≤ 41) <;> by_cases h3 : op = 3 <;> by_cases h4 : op = 4
  all_goals first | (exfalso; omega) | (simp [h0, h1, h2, h3, h4, wrap64]; done)
theorem size_le (op : Int) : 0 ≤ size op ∧ size op ≤ 3 := by
  unfold size
  repeat' split
  all_goals omega
def lim (s : Int) : Int := if s = 1 then 1 else if s = 2 then 256 else 65536
def codeOf (i : S77) : List Int := [i.f1 % 256] ++ (if size i.f1 = 3 then [i.f2 / 256 % 256] else []) ++ (if size i.f1 > 1 then [i.f2 % 256] else [])
/-- The instruction at the head of some bytes: its operation, its number, its size; or the error. -/
def decT : List Int → Except Int (Int × Int × Int)
  | [] => .error 11
  | op :: t => if size op = 0 then .error 17 else if size op = 1 then .ok (op, 0, 1) else
    match t with
    | [] => .error 11
    | b :: u => if size op = 2 then .ok (op, b, 2) else
      match u with
      | [] => .error 11
      | c :: _ => .ok (op, 256 * b + c, 3)
theorem decT_0 {op : Int} (t : List Int) (h : size op = 0) : decT (op :: t) = .error 17 := by simp only [decT]; rw [if_pos h]
theorem decT_1 {op : Int} (t : List Int) (h : size op = 1) : decT (op :: t) = .ok (op, 0, 1) := by simp only [decT]; rw [if_neg (by omega), if_pos h]
theorem decT_n {op : Int} (h0 : size op ≠ 0) (h1 : size op ≠ 1) : decT [op] = .error 11 := by simp only [decT]; rw [if_neg h0, if_neg h1]
theorem decT_2 {op : Int} (b : Int) (u : List Int) (h : size op = 2) : decT (op :: b :: u) = .ok (op, b, 2) := by simp only [decT]; rw [if_neg (by omega), if_neg (by omega), if_pos h]
theorem decT_m {op : Int} (b : Int) (h : size op = 3) : decT [op, b] = .error 11 := by simp only [decT]; rw [if_neg (by omega), if_neg (by omega), if_neg (by omega)]
theorem decT_3 {op : Int} (b c : Int) (v : List Int) (h : size op = 3) : decT (op :: b :: c :: v) = .ok (op, 256 * b + c, 3) := by simp only [decT]; rw [if_neg (by omega), if_neg (by omega), if_neg (by omega)]
def told (at_ : Int) : Except Int (Int × Int × Int) → Int × Int × Int × Int × Int
  | .error e => (0, 0, 0, 0, e)
  | .ok r => (at_, r.1, r.2.1, r.2.2, 0)
def decS (l : List Int) (a : Int) : Int × Int × Int × Int × Int := if a < 0 ∨ (l.length : Int) ≤ a then (0, 0, 0, 0, 11) else told a (decT (l.drop a.toNat))
def Bytes (l : List Int) : Prop := ∀ x ∈ l, 0 ≤ x ∧ x ≤ 255
theorem bytes_of {l : List Int} (h : ∀ x ∈ l, (Lit.int .u8 x).wf = true) : Bytes l := fun x hx => by
  have := h x hx
  simp [Lit.wf, IntKind.min, IntKind.max, IntKind.signed, IntKind.bits] at this
  omega
theorem or_join (n b : Int) (h0 : 0 ≤ n) (h1 : n ≤ 255) (h2 : 0 ≤ b) (h3 : b ≤ 255) : bits .or .i64 (wrap64 (n * 256)) (wrap64 b) = 256 * n + b := by
  rw [w64 (by omega) (by omega), w64 (by omega) (by omega)]
  rw [bits_join .i64 40 (by decide) (fun n h0 h1 => by rw [IntKind.wrap_i64]; omega) 8 (n * 256) b (by omega) (by omega) (by omega) (by omega) (by omega) (by omega)]
  omega
theorem drop_take_at {l : List Int} {j s : Nat} {op : Int} {t : List Int} (h : l.drop j = op :: t) (hs : 1 ≤ s) : (l.take (j + s)).drop (j + 1) = t.take (s - 1) := by
  rw [List.drop_take, show l.drop (j + 1) = t by rw [← List.drop_drop, h]; rfl]
  congr 1
  omega
theorem size_3 {op : Int} (h0 : size op ≠ 0) (h1 : size op ≠ 1) (h2 : size op ≠ 2) : size op = 3 := by have := size_le op; omega
theorem decode_f (l : List Int) (hb : Bytes l) (hl : l.length ≤ 2000000) (a : Int) : Ev (fun k => instr_Decode.f k l a) (decS l a) := by
  unfold instr_Decode.f decS
  have bad : Ev (fun k => instr_Decode.j0 k l a true) ((0, 0, 0, 0, 11) : Int × Int × Int × Int × Int) := by
    refine Ev.step (fun k => by rw [instr_Decode.j0]) ?_
    exact Ev_pos rfl (Ev.now _)
  by_cases h0 : a < 0
  · rw [if_pos (.inl h0)]
    exact Ev_pos h0 bad
  refine Ev_neg h0 ?_
  by_cases h1 : a ≥ (l.length : Int)
  · rw [if_pos (.inr h1), decide_eq_true h1]
    exact bad
  rw [if_neg (by omega), decide_eq_false h1]
  obtain ⟨j, rfl⟩ : ∃ j : Nat, a = j := ⟨a.toNat, by omega⟩
  obtain ⟨op, hop⟩ := at_of (l := l) (j := j) (by omega)
  have hd := drop_at hop
  generalize ht : l.drop (j + 1) = t at hd
  have htl : t.length = l.length - (j + 1) := by rw [← ht, List.length_drop]
  have hr : rd l (j : Int) = op := getD_at rfl hop
  have hopb := hb op (List.mem_of_getElem? hop)
  have htb : ∀ x ∈ t, 0 ≤ x ∧ x ≤ 255 := fun x hx => hb x (List.mem_of_mem_drop (ht ▸ hx))
  rw [Int.toNat_natCast, hd]
  refine Ev.step (fun k => by rw [instr_Decode.j0]) ?_
  simp only [hr]
  rw [w64 (n := op) (by omega) (by omega), w64 (n := (l.length : Int) - j) (by omega) (by omega), w64 (n := (j : Int) + 1) (by omega) (by omega)]
  refine Ev_neg Bool.false_ne_true (Ev_pos (by omega) (Ev_pos (by omega) (Ev.bind (size_f op) ?_)))
  have hs := size_le op
  rw [w64 (n := (j : Int) + size op) (by omega) (by omega)]
  by_cases s0 : size op = 0
  · rw [decT_0 _ s0]; exact Ev_pos s0 (Ev.now _)
  refine Ev_neg s0 ?_
  have e : ((l.take ((j : Int) + size op).toNat).drop ((j : Int) + 1).toNat) = t.take ((size op).toNat - 1) := by
    rw [show ((j : Int) + size op).toNat = j + (size op).toNat by omega, show ((j : Int) + 1).toNat = j + 1 by omega]
    exact drop_take_at hd (by omega)
  rw [e]
  by_cases s1 : size op = 1
  · rw [decT_1 _ s1, s1]
    refine Ev_neg (by omega) (Ev_pos (by omega) (Ev_pos (by omega) (Ev_pos (by omega) ?_)))
    refine Ev.step (fun k => by rw [instr_Decode.l0]) ?_
    exact Ev_neg (by simp) (Ev.now _)
  match t, htl, htb with
  | [], htl, _ => rw [decT_n s0 s1]; exact Ev_pos (by simp at htl; omega) (Ev.now _)
  | b :: u, htl, htb =>
    have hbb := htb b List.mem_cons_self
    simp only [List.length_cons] at htl
    have hz : bits .or .i64 (wrap64 (0 * 256)) (wrap64 b) = b := by rw [or_join 0 b (by omega) (by omega) (by omega) (by omega)]; omega
    by_cases s2 : size op = 2
    · rw [decT_2 _ _ s2]
      simp only [s2]
      refine Ev_neg (by omega) (Ev_pos (by omega) (Ev_pos (by omega) (Ev_pos (by omega) ?_)))
      refine Ev.step (fun k => by rw [instr_Decode.l0]) (Ev_pos (by simp) (Ev_pos (by omega) (Ev_pos (by simp) ?_)))
      refine Ev.step (fun k => by rw [instr_Decode.l0]) (Ev_neg (by simp [wrap64]) ?_)
      refine Ev_const ?_
      show some (_, _, bits .or .i64 (wrap64 (0 * 256)) (wrap64 b), _, _) = _
      rw [hz]; rfl
    · have s3 := size_3 s0 s1 s2
      match u, htl, htb with
      | [], htl, _ => rw [decT_m _ s3]; exact Ev_pos (by simp at htl; omega) (Ev.now _)
      | c :: v, htl, htb =>
        have hcb := htb c (List.mem_cons_of_mem _ List.mem_cons_self)
        simp only [List.length_cons] at htl
        rw [decT_3 _ _ _ s3]
        simp only [s3]
        refine Ev_neg (by omega) (Ev_pos (by omega) (Ev_pos (by omega) (Ev_pos (by omega) ?_)))
        refine Ev.step (fun k => by rw [instr_Decode.l0]) (Ev_pos (by simp) (Ev_pos (by omega) (Ev_pos (by simp) ?_)))
        refine Ev.step (fun k => by rw [instr_Decode.l0]) (Ev_pos (by simp [wrap64]) (Ev_pos (by simp [wrap64]) (Ev_pos (by simp [wrap64]) ?_)))
        refine Ev.step (fun k => by rw [instr_Decode.l0]) (Ev_neg (by simp [wrap64]) ?_)
        refine Ev_const ?_
        rw [show wrap64 (0 + 1) = 1 by decide +kernel]
        show some (_, _, bits .or .i64 (wrap64 (bits .or .i64 (wrap64 (0 * 256)) (wrap64 b) * 256)) (wrap64 c), _, _) = _
        rw [hz, or_join b c (by omega) (by omega) (by omega) (by omega)]; rfl
theorem decT_ok {t : List Int} {r : Int × Int × Int} (h : decT t = .ok r) : r.2.2 = size r.1 ∧ 1 ≤ r.2.2 ∧ r.2.2 ≤ 3 ∧ r.2.2 ≤ t.length := by
  match t, h with
  | op :: t, h =>
    have hs := size_le op
    by_cases s0 : size op = 0
    · rw [decT_0 _ s0] at h; cases h
    by_cases s1 : size op = 1
    · rw [decT_1 _ s1] at h; cases h; simp [s1]; omega
    match t, h with
    | [], h => rw [decT_n s0 s1] at h; cases h
    | b :: u, h =>
      by_cases s2 : size op = 2
      · rw [decT_2 _ _ s2] at h; cases h; simp [s2]; omega
      have s3 := size_3 s0 s1 s2
      match u, h with
      | [], h => rw [decT_m _ s3] at h; cases h
      | c :: v, h => rw [decT_3 _ _ _ s3] at h; cases h; simp [s3]; omega
theorem decT_err {t : List Int} {e : Int} (h : decT t = .error e) : e = 11 ∨ e = 17 := by
  match t, h with
  | [], h => cases h; exact .inl rfl
  | op :: t, h =>
    by_cases s0 : size op = 0
    · rw [decT_0 _ s0] at h; cases h; exact .inr rfl
    by_cases s1 : size op = 1
    · rw [decT_1 _ s1] at h; cases h
    match t, h with
    | [], h => rw [decT_n s0 s1] at h; cases h; exact .inl rfl
    | b :: u, h =>
      by_cases s2 : size op = 2
      · rw [decT_2 _ _ s2] at h; cases h
      have s3 := size_3 s0 s1 s2
      match u, h with
      | [], h => rw [decT_m _ s3] at h; cases h; exact .inl rfl
      | c :: v, h => rw [decT_3 _ _ _ s3] at h; cases h
/-- The instructions of some bytes, the first at a place; or the place that can't be read, and why. -/
def parse : Nat → Int → List Int → Except (Int × Int) (List S77)
  | _, _, [] => .ok []
  | 0, _, _ :: _ => .ok []
  | n + 1, a, x :: t => match decT (x :: t) with
    | .error e => .error (a, e)
    | .ok r => (parse n (a + r.2.2) ((x :: t).drop r.2.2.toNat)).map (⟨a, r.1, r.2.1, r.2.2⟩ :: ·)
def allOf (acc : List S77) : Except (Int × Int) (List S77) → List S77 × Int × Int
  | .error e => ([], e.1, e.2)
  | .ok l => (acc ++ l, 0, 0)
theorem allOf_map (acc : List S77) (x : S77) (p : Except (Int × Int) (List S77)) : allOf acc (p.map (x :: ·)) = allOf (acc ++ [x]) p := by
  cases p <;> simp [allOf, Except.map]
theorem all_l (l : List Int) (hb : Bytes l) (hl : l.length ≤ 2000000) : ∀ (n j : Nat) (acc : List S77), l.length - j ≤ n → acc.length ≤ j → j ≤ l.length →
    Ev (fun k => instr_All.l0 k l acc (j : Int)) (allOf acc (parse n j (l.drop j)))
  | n, j, acc, hn, ha, hj => by
    by_cases hlt : j < l.length
    · obtain ⟨op, hop⟩ := at_of hlt
      have hd := drop_at hop
      obtain ⟨n, rfl⟩ : ∃ m, n = m + 1 := ⟨n - 1, by omega⟩
      refine Ev.step (fun k => by rw [instr_All.l0]) (Ev_pos (by omega) (Ev.bind (decode_f l hb hl j) ?_))
      rw [hd]
      unfold decS parse
      rw [if_neg (by omega), Int.toNat_natCast, hd]
      cases hc : decT (op :: l.drop (j + 1)) with
      | error e =>
        simp only [told]
        exact Ev_neg (by have := decT_err hc; omega) (Ev.now _)
      | ok r =>
        obtain ⟨h1, h2, h3, h4⟩ := decT_ok hc
        rw [← hd, List.length_drop] at h4
        simp only [told]
        refine Ev_pos trivial (Ev_pos (by omega) ?_)
        rw [show wrap64 ((j : Int) + r.2.2) = ((j + r.2.2.toNat : Nat) : Int) by rw [w64] <;> omega, allOf_map, ← hd, List.drop_drop, show (j : Int) + r.2.2 = ((j + r.2.2.toNat : Nat) : Int) by omega]
        exact all_l l hb hl n (j + r.2.2.toNat) _ (by omega) (by simp; omega) (by omega)
    · refine Ev.step (fun k => by rw [instr_All.l0]) (Ev_neg (by omega) (Ev_const ?_))
      rw [List.drop_of_length_le (by omega)]
      cases n <;> simp [parse, allOf]
theorem all_f (l : List Int) (hb : Bytes l) (hl : l.length ≤ 2000000) : Ev (fun k => instr_All.f k l) (allOf [] (parse l.length 0 l)) := all_l l hb hl l.length 0 [] (by omega) (by simp) (by omega)
theorem parse_len : ∀ (n : Nat) (a : Int) (t : List Int) (l : List S77), parse n a t = .ok l → l.length ≤ t.length
  | n, _, [], l, h => by cases n <;> (simp only [parse] at h; cases h; simp)
  | 0, _, _ :: _, l, h => by simp only [parse] at h; cases h; simp
  | n + 1, a, x :: t, l, h => by
    unfold parse at h
    cases hc : decT (x :: t) with
    | error e => rw [hc] at h; cases h
    | ok r =>
      rw [hc] at h
      obtain ⟨_, h2, _, h4⟩ := decT_ok hc
      cases hp : parse n (a + r.2.2) ((x :: t).drop r.2.2.toNat) with
      | error e => simp only [hp] at h; cases h
      | ok l' =>
        simp only [hp] at h
        cases h
        have := parse_len n _ _ _ hp
        rw [List.length_drop] at this
        simp only [List.length_cons] at this ⊢
        omega
theorem parse_nil (n : Nat) (a : Int) : parse n a [] = .ok [] := by cases n <;> rfl
theorem parse_err {n : Nat} {a : Int} {t : List Int} {e : Int} (h0 : t ≠ []) (h : decT t = .error e) : parse (n + 1) a t = .error (a, e) := by
  match t, h0 with
  | x :: t, _ => rw [parse, h]
theorem parse_ok {n : Nat} {a : Int} {t : List Int} {r : Int × Int × Int} (h : decT t = .ok r) : parse (n + 1) a t = (parse n (a + r.2.2) (t.drop r.2.2.toNat)).map (⟨a, r.1, r.2.1, r.2.2⟩ :: ·) := by
  match t, h with
  | x :: t, h => rw [parse, h]
theorem parse_fuel : ∀ (n m : Nat) (a : Int) (t : List Int), t.length ≤ n → t.length ≤ m → parse n a t = parse m a t
  | n, m, a, [], _, _ => by rw [parse_nil, parse_nil]
  | 0, _, _, _ :: _, h, _ => absurd h (by simp)
  | _ + 1, 0, _, _ :: _, _, h => absurd h (by simp)
  | n + 1, m + 1, a, x :: t, h, h' => by
    cases hc : decT (x :: t) with
    | error e => rw [parse_err (by simp) hc, parse_err (by simp) hc]
    | ok r =>
      rw [parse_ok hc, parse_ok hc]
      obtain ⟨_, h2, _, h4⟩ := decT_ok hc
      rw [parse_fuel n m _ _ (by simp only [List.length_drop, List.length_cons] at *; omega) (by simp only [List.length_drop, List.length_cons] at *; omega)]
/-- The places are inside. -/
theorem parse_in : ∀ (n : Nat) (a : Int) (t : List Int), t.length ≤ n →
    (∀ l, parse n a t = .ok l → ∀ x ∈ l, a ≤ x.f0 ∧ x.f0 < a + t.length) ∧ (∀ k e, parse n a t = .error (k, e) → a ≤ k ∧ k < a + t.length ∧ (e = 11 ∨ e = 17))
  | n, a, [], _ => by rw [parse_nil]; exact ⟨fun l h => (by cases h; simp), fun k e h => (by cases h)⟩
  | 0, _, _ :: _, h => absurd h (by simp)
  | n + 1, a, x :: t, h => by
    cases hc : decT (x :: t) with
    | error e =>
      rw [parse_err (by simp) hc]
      exact ⟨fun l h => (by cases h), fun k e h => (by cases h; exact ⟨by omega, by simp only [List.length_cons]; omega, decT_err hc⟩)⟩
    | ok r =>
      obtain ⟨_, h2, _, h4⟩ := decT_ok hc
      rw [parse_ok hc]
      simp only [List.length_cons] at h h4 ⊢
      have hd : ((x :: t).drop r.2.2.toNat).length = t.length + 1 - r.2.2.toNat := by simp
      have ih := parse_in n (a + r.2.2) ((x :: t).drop r.2.2.toNat) (by omega)
      rw [hd] at ih
      cases hp : parse n (a + r.2.2) ((x :: t).drop r.2.2.toNat) with
      | error e' =>
        rw [hp] at ih
        exact ⟨fun l h => (by cases h), fun k e h => (by cases h; have := ih.2 k e rfl; exact ⟨by omega, by omega, this.2.2⟩)⟩
      | ok l =>
        rw [hp] at ih
        refine ⟨fun l' h => ?_, fun k e h => (by cases h)⟩
        cases h
        intro y hy
        rcases List.mem_cons.1 hy with rfl | hy
        · simp only; omega
        · have := ih.1 l rfl y hy; omega
def Good (i : S77) : Prop := size i.f1 ≠ 0 ∧ 0 ≤ i.f2 ∧ i.f2 < lim (size i.f1)
def flat : List S77 → List Int
  | [] => []
  | i :: l => codeOf i ++ flat l
theorem op_in {op : Int} (h : size op ≠ 0) : 0 ≤ op ∧ op ≤ 45 := by
  by_cases h1 : op < 0 ∨ 45 < op
  · exact absurd (by unfold size; rw [if_pos h1]) h
  · omega
theorem decT_back {t : List Int} {r : Int × Int × Int} (hb : Bytes t) (h : decT t = .ok r) (a : Int) : Good ⟨a, r.1, r.2.1, r.2.2⟩ ∧ codeOf ⟨a, r.1, r.2.1, r.2.2⟩ = t.take r.2.2.toNat := by
  match t, h with
  | op :: t, h =>
    by_cases s0 : size op = 0
    · rw [decT_0 _ s0] at h; cases h
    have ho := op_in s0
    by_cases s1 : size op = 1
    · rw [decT_1 _ s1] at h; cases h
      refine ⟨⟨s0, by simp, by simp [s1, lim]⟩, ?_⟩
      unfold codeOf
      simp only [s1]
      rw [if_neg (by omega), if_neg (by omega)]
      simp; omega
    match t, h with
    | [], h => rw [decT_n s0 s1] at h; cases h
    | b :: u, h =>
      have hbb := hb b (by simp)
      by_cases s2 : size op = 2
      · rw [decT_2 _ _ s2] at h; cases h
        refine ⟨⟨s0, hbb.1, by simp [s2, lim]; omega⟩, ?_⟩
        unfold codeOf
        simp only [s2]
        rw [if_neg (by omega), if_pos (by omega)]
        simp; omega
      have s3 := size_3 s0 s1 s2
      match u, h with
      | [], h => rw [decT_m _ s3] at h; cases h
      | c :: v, h =>
        have hcb := hb c (by simp)
        rw [decT_3 _ _ _ s3] at h; cases h
        refine ⟨⟨s0, by simp only; omega, by simp only [s3]; unfold lim; rw [if_neg (by omega), if_neg (by omega)]; omega⟩, ?_⟩
        unfold codeOf
        simp only [s3]
        simp; omega
theorem parse_back : ∀ (n : Nat) (a : Int) (t : List Int) (l : List S77), Bytes t → t.length ≤ n → parse n a t = .ok l → (∀ i ∈ l, Good i) ∧ flat l = t
  | n, a, [], l, _, _, h => by rw [parse_nil] at h; cases h; simp [flat]
  | 0, _, _ :: _, _, _, h, _ => absurd h (by simp)
  | n + 1, a, x :: t, l, hb, hn, h => by
    cases hc : decT (x :: t) with
    | error e => rw [parse_err (by simp) hc] at h; cases h
    | ok r =>
      obtain ⟨_, h2, _, h4⟩ := decT_ok hc
      rw [parse_ok hc] at h
      cases hp : parse n (a + r.2.2) ((x :: t).drop r.2.2.toNat) with
      | error e => rw [hp] at h; cases h
      | ok l' =>
        rw [hp] at h; cases h
        obtain ⟨hg, hf⟩ := parse_back n _ _ l' (fun x hx => hb x (List.mem_of_mem_drop hx)) (by simp only [List.length_drop, List.length_cons] at *; omega) hp
        obtain ⟨g, c⟩ := decT_back hb hc a
        refine ⟨fun y hy => ?_, ?_⟩
        · rcases List.mem_cons.1 hy with rfl | hy
          · exact g
          · exact hg y hy
        · rw [flat, c, hf, List.take_append_drop]
end Go.Proofs.YtldejfkplnejjaaDoor.Pure
