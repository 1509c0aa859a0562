/- Chapter 4, plainly: reading one instruction, reading code whole. -/
import Derived.Test.YtndpdelkhmaliaaDoorPure4
import Derived.Laws.BitsLemmas
import Derived.Test.YtndpdelkhmaliaaDoorP7
import Derived.Test.YtndpdelkhmaliaaDoorP8
namespace Go.Proofs.YtndpdelkhmaliaaDoor.Pure
open Go.RowKit Go.Proofs.YtndpdelkhmaliaaDoor.P Go.Proofs.YtndpdelkhmaliaaDoorW.PrintWords
set_option linter.unusedVariables false

/-- The instruction at the head of some bytes: its operation, its number, its size; or the error. -/
def decT : List Int → Except Int (Int × Int × Int)
  | [] => .error 11
  | op :: t => if size op = 0 then .error 17 else if size op = 1 then .ok (op, 0, 1) else
    match t with
    | [] => .error 11
    | b :: u => if size op = 2 then .ok (op, b, 2) else
      match u with
      | [] => .error 11
      | c :: _ => .ok (op, 256 * b + c, 3)
theorem decT_0 {op : Int} (t : List Int) (h : size op = 0) : decT (op :: t) = .error 17 := by simp only [decT]; rw [if_pos h]
theorem decT_1 {op : Int} (t : List Int) (h : size op = 1) : decT (op :: t) = .ok (op, 0, 1) := by simp only [decT]; rw [if_neg (by omega), if_pos h]
theorem decT_n {op : Int} (h0 : size op ≠ 0) (h1 : size op ≠ 1) : decT [op] = .error 11 := by simp only [decT]; rw [if_neg h0, if_neg h1]
theorem decT_2 {op : Int} (b : Int) (u : List Int) (h : size op = 2) : decT (op :: b :: u) = .ok (op, b, 2) := by simp only [decT]; rw [if_neg (by omega), if_neg (by omega), if_pos h]
theorem decT_m {op : Int} (b : Int) (h : size op = 3) : decT [op, b] = .error 11 := by simp only [decT]; rw [if_neg (by omega), if_neg (by omega), if_neg (by omega)]
theorem decT_3 {op : Int} (b c : Int) (v : List Int) (h : size op = 3) : decT (op :: b :: c :: v) = .ok (op, 256 * b + c, 3) := by simp only [decT]; rw [if_neg (by omega), if_neg (by omega), if_neg (by omega)]
def told (at_ : Int) : Except Int (Int × Int × Int) → Int × Int × Int × Int × Int
  | .error e => (0, 0, 0, 0, e)
  | .ok r => (at_, r.1, r.2.1, r.2.2, 0)
def decS (l : List Int) (a : Int) : Int × Int × Int × Int × Int := if a < 0 ∨ (l.length : Int) ≤ a then (0, 0, 0, 0, 11) else told a (decT (l.drop a.toNat))
def Bytes (l : List Int) : Prop := ∀ x ∈ l, 0 ≤ x ∧ x ≤ 255
theorem bytes_of {l : List Int} (h : ∀ x ∈ l, (Lit.int .u8 x).wf = true) : Bytes l := fun x hx => by
  have := h x hx
  simp [Lit.wf, IntKind.min, IntKind.max, IntKind.signed, IntKind.bits] at this
  omega
theorem or_join (n b : Int) (h0 : 0 ≤ n) (h1 : n ≤ 255) (h2 : 0 ≤ b) (h3 : b ≤ 255) : bits .or .i64 (wrap64 (n * 256)) (wrap64 b) = 256 * n + b := by
  rw [w64 (by omega) (by omega), w64 (by omega) (by omega)]
  rw [bits_join .i64 40 (by decide) (fun n h0 h1 => by rw [IntKind.wrap_i64]; omega) 8 (n * 256) b (by omega) (by omega) (by omega) (by omega) (by omega) (by omega)]
  omega
theorem drop_take_at {l : List Int} {j s : Nat} {op : Int} {t : List Int} (h : l.drop j = op :: t) (hs : 1 ≤ s) : (l.take (j + s)).drop (j + 1) = t.take (s - 1) := by
  rw [List.drop_take, show l.drop (j + 1) = t by rw [← List.drop_drop, h]; rfl]
  congr 1
  omega
theorem mem_drop {l : List Int} {j : Nat} {x : Int} (h : x ∈ l.drop j) : x ∈ l := List.mem_of_mem_drop h
theorem size_3 {op : Int} (h0 : size op ≠ 0) (h1 : size op ≠ 1) (h2 : size op ≠ 2) : size op = 3 := by have := size_le op; omega

theorem decode_f (l : List Int) (hb : Bytes l) (hl : l.length ≤ 2000000) (a : Int) : Ev (fun k => instr_Decode.f k l a) (decS l a) := by
  unfold instr_Decode.f decS
  have bad : Ev (fun k => instr_Decode.j0 k l a true) ((0, 0, 0, 0, 11) : Int × Int × Int × Int × Int) := by
    refine Ev.step (fun k => by rw [instr_Decode.j0]) ?_
    exact Ev_pos rfl (Ev.now _)
  by_cases h0 : a < 0
  · rw [if_pos (.inl h0)]
    exact Ev_pos h0 bad
  refine Ev_neg h0 ?_
  by_cases h1 : a ≥ (l.length : Int)
  · rw [if_pos (.inr h1), decide_eq_true h1]
    exact bad
  rw [if_neg (by omega), decide_eq_false h1]
  obtain ⟨j, rfl⟩ : ∃ j : Nat, a = j := ⟨a.toNat, by omega⟩
  obtain ⟨op, hop⟩ := at_of (l := l) (j := j) (by omega)
  have hd := drop_at hop
  generalize ht : l.drop (j + 1) = t at hd
  have htl : t.length = l.length - (j + 1) := by rw [← ht, List.length_drop]
  have hr : rd l (j : Int) = op := getD_at rfl hop
  have hopb := hb op (List.mem_of_getElem? hop)
  have htb : ∀ x ∈ t, 0 ≤ x ∧ x ≤ 255 := fun x hx => hb x (List.mem_of_mem_drop (ht ▸ hx))
  rw [Int.toNat_natCast, hd]
  refine Ev.step (fun k => by rw [instr_Decode.j0]) ?_
  simp only [hr]
  rw [w64 (n := op) (by omega) (by omega), w64 (n := (l.length : Int) - j) (by omega) (by omega), w64 (n := (j : Int) + 1) (by omega) (by omega)]
  refine Ev_neg Bool.false_ne_true (Ev_pos (by omega) (Ev_pos (by omega) (Ev.bind (size_f op) ?_)))
  have hs := size_le op
  rw [w64 (n := (j : Int) + size op) (by omega) (by omega)]
  by_cases s0 : size op = 0
  · rw [decT_0 _ s0]; exact Ev_pos s0 (Ev.now _)
  refine Ev_neg s0 ?_
  have e : ((l.take ((j : Int) + size op).toNat).drop ((j : Int) + 1).toNat) = t.take ((size op).toNat - 1) := by
    rw [show ((j : Int) + size op).toNat = j + (size op).toNat by omega, show ((j : Int) + 1).toNat = j + 1 by omega]
    exact drop_take_at hd (by omega)
  rw [e]
  by_cases s1 : size op = 1
  · rw [decT_1 _ s1, s1]
    refine Ev_neg (by omega) (Ev_pos (by omega) (Ev_pos (by omega) (Ev_pos (by omega) ?_)))
    refine Ev.step (fun k => by rw [instr_Decode.l0]) ?_
    exact Ev_neg (by simp) (Ev.now _)
  match t, htl, htb with
  | [], htl, _ => rw [decT_n s0 s1]; exact Ev_pos (by simp at htl; omega) (Ev.now _)
  | b :: u, htl, htb =>
    have hbb := htb b List.mem_cons_self
    simp only [List.length_cons] at htl
    have hz : bits .or .i64 (wrap64 (0 * 256)) (wrap64 b) = b := by rw [or_join 0 b (by omega) (by omega) (by omega) (by omega)]; omega
    by_cases s2 : size op = 2
    · rw [decT_2 _ _ s2]
      simp only [s2]
      refine Ev_neg (by omega) (Ev_pos (by omega) (Ev_pos (by omega) (Ev_pos (by omega) ?_)))
      refine Ev.step (fun k => by rw [instr_Decode.l0]) (Ev_pos (by simp) (Ev_pos (by omega) (Ev_pos (by simp) ?_)))
      refine Ev.step (fun k => by rw [instr_Decode.l0]) (Ev_neg (by simp [wrap64]) ?_)
      refine Ev_const ?_
      show some (_, _, bits .or .i64 (wrap64 (0 * 256)) (wrap64 b), _, _) = _
      rw [hz]; rfl
    · have s3 := size_3 s0 s1 s2
      match u, htl, htb with
      | [], htl, _ => rw [decT_m _ s3]; exact Ev_pos (by simp at htl; omega) (Ev.now _)
      | c :: v, htl, htb =>
        have hcb := htb c (List.mem_cons_of_mem _ List.mem_cons_self)
        simp only [List.length_cons] at htl
        rw [decT_3 _ _ _ s3]
        simp only [s3]
        refine Ev_neg (by omega) (Ev_pos (by omega) (Ev_pos (by omega) (Ev_pos (by omega) ?_)))
        refine Ev.step (fun k => by rw [instr_Decode.l0]) (Ev_pos (by simp) (Ev_pos (by omega) (Ev_pos (by simp) ?_)))
        refine Ev.step (fun k => by rw [instr_Decode.l0]) (Ev_pos (by simp [wrap64]) (Ev_pos (by simp [wrap64]) (Ev_pos (by simp [wrap64]) ?_)))
        refine Ev.step (fun k => by rw [instr_Decode.l0]) (Ev_neg (by simp [wrap64]) ?_)
        refine Ev_const ?_
        rw [show wrap64 (0 + 1) = 1 by decide +kernel]
        show some (_, _, bits .or .i64 (wrap64 (bits .or .i64 (wrap64 (0 * 256)) (wrap64 b) * 256)) (wrap64 c), _, _) = _
        rw [hz, or_join b c (by omega) (by omega) (by omega) (by omega)]; rfl

theorem rdecode_f (l : List Int) (hb : Bytes l) (hl : l.length ≤ 2000000) (a : Int) : Ev (fun k => keystoneref4_Decode.f k l a) (decS l a) := by
  unfold keystoneref4_Decode.f decS
  have bad : Ev (fun k => keystoneref4_Decode.j0 k l a true) ((0, 0, 0, 0, 11) : Int × Int × Int × Int × Int) := by
    refine Ev.step (fun k => by rw [keystoneref4_Decode.j0]) ?_
    exact Ev_pos rfl (Ev.now _)
  by_cases h0 : a < 0
  · rw [if_pos (.inl h0)]
    exact Ev_pos h0 bad
  refine Ev_neg h0 ?_
  by_cases h1 : a ≥ (l.length : Int)
  · rw [if_pos (.inr h1), decide_eq_true h1]
    exact bad
  rw [if_neg (by omega), decide_eq_false h1]
  obtain ⟨j, rfl⟩ : ∃ j : Nat, a = j := ⟨a.toNat, by omega⟩
  obtain ⟨op, hop⟩ := at_of (l := l) (j := j) (by omega)
  have hd := drop_at hop
  generalize ht : l.drop (j + 1) = t at hd
  have htl : t.length = l.length - (j + 1) := by rw [← ht, List.length_drop]
  have hr : rd l (j : Int) = op := getD_at rfl hop
  have hopb := hb op (List.mem_of_getElem? hop)
  have htb : ∀ x ∈ t, 0 ≤ x ∧ x ≤ 255 := fun x hx => hb x (List.mem_of_mem_drop (ht ▸ hx))
  rw [Int.toNat_natCast, hd]
  refine Ev.step (fun k => by rw [keystoneref4_Decode.j0]) ?_
  simp only [hr]
  rw [w64 (n := op) (by omega) (by omega), w64 (n := (l.length : Int) - j) (by omega) (by omega)]
  refine Ev_neg Bool.false_ne_true (Ev_pos (by omega) (Ev_pos (by omega) (Ev.bind (rsize_f op) ?_)))
  have hs := size_le op
  have h1j : wrap64 ((j : Int) + 1) = ((j + 1 : Nat) : Int) := by rw [w64] <;> omega
  have h2j : wrap64 ((j : Int) + 2) = ((j + 2 : Nat) : Int) := by rw [w64] <;> omega
  have w11 : wrap64 (1 + 1) = 2 := by decide +kernel
  have w21 : wrap64 (2 + 1) = 3 := by decide +kernel
  by_cases s0 : size op = 0
  · rw [decT_0 _ s0]; exact Ev_pos s0 (Ev.now _)
  refine Ev_neg s0 ?_
  by_cases s1 : size op = 1
  · rw [decT_1 _ s1, s1]
    refine Ev_neg (by omega) ?_
    refine Ev.step (fun k => by rw [keystoneref4_Decode.l0]) ?_
    exact Ev_neg (by simp) (Ev.now _)
  match t, ht, htl, htb with
  | [], ht, htl, _ => rw [decT_n s0 s1]; exact Ev_pos (by simp at htl; omega) (Ev.now _)
  | b :: u, ht, htl, htb =>
    have hbb := htb b List.mem_cons_self
    simp only [List.length_cons] at htl
    have hrb : rd l ((j + 1 : Nat) : Int) = b := getD_at rfl (by rw [← List.head?_drop, ht]; rfl)
    have hz : wrap64 (wrap64 (256 * 0) + wrap64 b) = b := by rw [w64 (n := b) (by omega) (by omega)]; unfold wrap64; omega
    by_cases s2 : size op = 2
    · rw [decT_2 _ _ s2]
      simp only [s2]
      refine Ev_neg (by omega) ?_
      refine Ev.step (fun k => by rw [keystoneref4_Decode.l0, h1j, hrb, hz, w11]) (Ev_pos (by omega) (Ev_pos (by omega) (Ev_pos (by omega) ?_)))
      refine Ev.step (fun k => by rw [keystoneref4_Decode.l0]) (Ev_neg (by omega) ?_)
      exact Ev_const rfl
    · have s3 := size_3 s0 s1 s2
      match u, ht, htl, htb with
      | [], ht, htl, _ => rw [decT_m _ s3]; exact Ev_pos (by simp at htl; omega) (Ev.now _)
      | c :: v, ht, htl, htb =>
        have hcb := htb c (List.mem_cons_of_mem _ List.mem_cons_self)
        simp only [List.length_cons] at htl
        rw [decT_3 _ _ _ s3]
        simp only [s3]
        have hrc : rd l ((j + 2 : Nat) : Int) = c := getD_at rfl (by rw [← List.head?_drop, show l.drop (j + 2) = c :: v by rw [show j + 2 = (j + 1) + 1 by omega, ← List.drop_drop, ht]; rfl]; rfl)
        have hy : wrap64 (wrap64 (256 * b) + wrap64 c) = 256 * b + c := by rw [w64 (n := c) (by omega) (by omega), w64 (n := 256 * b) (by omega) (by omega), w64 (by omega) (by omega)]
        refine Ev_neg (by omega) ?_
        refine Ev.step (fun k => by rw [keystoneref4_Decode.l0, h1j, hrb, hz, w11]) (Ev_pos (by omega) (Ev_pos (by omega) (Ev_pos (by omega) ?_)))
        refine Ev.step (fun k => by rw [keystoneref4_Decode.l0, h2j, hrc, hy, w21]) (Ev_pos (by omega) (Ev_pos (by omega) (Ev_pos (by omega) ?_)))
        refine Ev.step (fun k => by rw [keystoneref4_Decode.l0]) (Ev_neg (by omega) ?_)
        exact Ev_const rfl

/-! ### reading whole -/
theorem decT_ok {t : List Int} {r : Int × Int × Int} (h : decT t = .ok r) : r.2.2 = size r.1 ∧ 1 ≤ r.2.2 ∧ r.2.2 ≤ 3 ∧ r.2.2 ≤ t.length := by
  match t, h with
  | op :: t, h =>
    have hs := size_le op
    by_cases s0 : size op = 0
    · rw [decT_0 _ s0] at h; cases h
    by_cases s1 : size op = 1
    · rw [decT_1 _ s1] at h; cases h; simp [s1]; omega
    match t, h with
    | [], h => rw [decT_n s0 s1] at h; cases h
    | b :: u, h =>
      by_cases s2 : size op = 2
      · rw [decT_2 _ _ s2] at h; cases h; simp [s2]; omega
      have s3 := size_3 s0 s1 s2
      match u, h with
      | [], h => rw [decT_m _ s3] at h; cases h
      | c :: v, h => rw [decT_3 _ _ _ s3] at h; cases h; simp [s3]; omega
theorem decT_err {t : List Int} {e : Int} (h : decT t = .error e) : e = 11 ∨ e = 17 := by
  match t, h with
  | [], h => cases h; exact .inl rfl
  | op :: t, h =>
    by_cases s0 : size op = 0
    · rw [decT_0 _ s0] at h; cases h; exact .inr rfl
    by_cases s1 : size op = 1
    · rw [decT_1 _ s1] at h; cases h
    match t, h with
    | [], h => rw [decT_n s0 s1] at h; cases h; exact .inl rfl
    | b :: u, h =>
      by_cases s2 : size op = 2
      · rw [decT_2 _ _ s2] at h; cases h
      have s3 := size_3 s0 s1 s2
      match u, h with
      | [], h => rw [decT_m _ s3] at h; cases h; exact .inl rfl
      | c :: v, h => rw [decT_3 _ _ _ s3] at h; cases h
/-- The instructions of some bytes, the first at a place; or the place that can't be read, and why. -/
def parse : Nat → Int → List Int → Except (Int × Int) (List S38)
  | _, _, [] => .ok []
  | 0, _, _ :: _ => .ok []
  | n + 1, a, x :: t => match decT (x :: t) with
    | .error e => .error (a, e)
    | .ok r => (parse n (a + r.2.2) ((x :: t).drop r.2.2.toNat)).map (⟨a, r.1, r.2.1, r.2.2⟩ :: ·)
def allOf (acc : List S38) : Except (Int × Int) (List S38) → List S38 × Int × Int
  | .error e => ([], e.1, e.2)
  | .ok l => (acc ++ l, 0, 0)
theorem allOf_map (acc : List S38) (x : S38) (p : Except (Int × Int) (List S38)) : allOf acc (p.map (x :: ·)) = allOf (acc ++ [x]) p := by
  cases p <;> simp [allOf, Except.map]
theorem all_l (l : List Int) (hb : Bytes l) (hl : l.length ≤ 2000000) : ∀ (n j : Nat) (acc : List S38), l.length - j ≤ n → acc.length ≤ j → j ≤ l.length →
    Ev (fun k => instr_All.l0 k l acc (j : Int)) (allOf acc (parse n j (l.drop j)))
  | n, j, acc, hn, ha, hj => by
    by_cases hlt : j < l.length
    · obtain ⟨op, hop⟩ := at_of hlt
      have hd := drop_at hop
      obtain ⟨n, rfl⟩ : ∃ m, n = m + 1 := ⟨n - 1, by omega⟩
      refine Ev.step (fun k => by rw [instr_All.l0]) (Ev_pos (by omega) (Ev.bind (decode_f l hb hl j) ?_))
      rw [hd]
      unfold decS parse
      rw [if_neg (by omega), Int.toNat_natCast, hd]
      cases hc : decT (op :: l.drop (j + 1)) with
      | error e =>
        simp only [told]
        exact Ev_neg (by have := decT_err hc; omega) (Ev.now _)
      | ok r =>
        obtain ⟨h1, h2, h3, h4⟩ := decT_ok hc
        rw [← hd, List.length_drop] at h4
        simp only [told]
        refine Ev_pos trivial (Ev_pos (by omega) ?_)
        rw [show wrap64 ((j : Int) + r.2.2) = ((j + r.2.2.toNat : Nat) : Int) by rw [w64] <;> omega, allOf_map, ← hd, List.drop_drop, show (j : Int) + r.2.2 = ((j + r.2.2.toNat : Nat) : Int) by omega]
        exact all_l l hb hl n (j + r.2.2.toNat) _ (by omega) (by simp; omega) (by omega)
    · refine Ev.step (fun k => by rw [instr_All.l0]) (Ev_neg (by omega) (Ev_const ?_))
      rw [List.drop_of_length_le (by omega)]
      cases n <;> simp [parse, allOf]
theorem all_f (l : List Int) (hb : Bytes l) (hl : l.length ≤ 2000000) : Ev (fun k => instr_All.f k l) (allOf [] (parse l.length 0 l)) := all_l l hb hl l.length 0 [] (by omega) (by simp) (by omega)
theorem rall_l (l : List Int) (hb : Bytes l) (hl : l.length ≤ 2000000) : ∀ (n j : Nat) (acc : List S38), l.length - j ≤ n → acc.length ≤ j → j ≤ l.length →
    Ev (fun k => keystoneref4_All.l0 k l acc (j : Int)) (allOf acc (parse n j (l.drop j)))
  | n, j, acc, hn, ha, hj => by
    by_cases hlt : j < l.length
    · obtain ⟨op, hop⟩ := at_of hlt
      have hd := drop_at hop
      obtain ⟨n, rfl⟩ : ∃ m, n = m + 1 := ⟨n - 1, by omega⟩
      refine Ev.step (fun k => by rw [keystoneref4_All.l0]) (Ev_pos (by omega) (Ev.bind (rdecode_f l hb hl j) ?_))
      rw [hd]
      unfold decS parse
      rw [if_neg (by omega), Int.toNat_natCast, hd]
      cases hc : decT (op :: l.drop (j + 1)) with
      | error e =>
        simp only [told]
        exact Ev_neg (by have := decT_err hc; omega) (Ev.now _)
      | ok r =>
        obtain ⟨h1, h2, h3, h4⟩ := decT_ok hc
        rw [← hd, List.length_drop] at h4
        simp only [told]
        refine Ev_pos trivial (Ev_pos (by omega) ?_)
        rw [show wrap64 ((j : Int) + r.2.2) = ((j + r.2.2.toNat : Nat) : Int) by rw [w64] <;> omega, allOf_map, ← hd, List.drop_drop, show (j : Int) + r.2.2 = ((j + r.2.2.toNat : Nat) : Int) by omega]
        exact rall_l l hb hl n (j + r.2.2.toNat) _ (by omega) (by simp; omega) (by omega)
    · refine Ev.step (fun k => by rw [keystoneref4_All.l0]) (Ev_neg (by omega) (Ev_const ?_))
      rw [List.drop_of_length_le (by omega)]
      cases n <;> simp [parse, allOf]
theorem rall_f (l : List Int) (hb : Bytes l) (hl : l.length ≤ 2000000) : Ev (fun k => keystoneref4_All.f k l) (allOf [] (parse l.length 0 l)) := rall_l l hb hl l.length 0 [] (by omega) (by simp) (by omega)
theorem parse_len : ∀ (n : Nat) (a : Int) (t : List Int) (l : List S38), parse n a t = .ok l → l.length ≤ t.length
  | n, _, [], l, h => by cases n <;> (simp only [parse] at h; cases h; simp)
  | 0, _, _ :: _, l, h => by simp only [parse] at h; cases h; simp
  | n + 1, a, x :: t, l, h => by
    unfold parse at h
    cases hc : decT (x :: t) with
    | error e => rw [hc] at h; cases h
    | ok r =>
      rw [hc] at h
      obtain ⟨_, h2, _, h4⟩ := decT_ok hc
      cases hp : parse n (a + r.2.2) ((x :: t).drop r.2.2.toNat) with
      | error e => simp only [hp] at h; cases h
      | ok l' =>
        simp only [hp] at h
        cases h
        have := parse_len n _ _ _ hp
        rw [List.length_drop] at this
        simp only [List.length_cons] at this ⊢
        omega
end Go.Proofs.YtndpdelkhmaliaaDoor.Pure
