/- Chapter 4, plainly: code read behind code, code read back. -/
import Derived.Test.YtndpdelkhmaliaaDoorPure4b
namespace Go.Proofs.YtndpdelkhmaliaaDoor.Pure
open Go.RowKit Go.Proofs.YtndpdelkhmaliaaDoor.P Go.Proofs.YtndpdelkhmaliaaDoorW.PrintWords
set_option linter.unusedVariables false

theorem parse_nil (n : Nat) (a : Int) : parse n a [] = .ok [] := by cases n <;> rfl
theorem parse_err {n : Nat} {a : Int} {t : List Int} {e : Int} (h0 : t ≠ []) (h : decT t = .error e) : parse (n + 1) a t = .error (a, e) := by
  match t, h0 with
  | x :: t, _ => rw [parse, h]
theorem parse_ok {n : Nat} {a : Int} {t : List Int} {r : Int × Int × Int} (h : decT t = .ok r) : parse (n + 1) a t = (parse n (a + r.2.2) (t.drop r.2.2.toNat)).map (⟨a, r.1, r.2.1, r.2.2⟩ :: ·) := by
  match t, h with
  | x :: t, h => rw [parse, h]
theorem decT_nil {t : List Int} {r : Int × Int × Int} (h : decT t = .ok r) : t ≠ [] := by rintro rfl; cases h
theorem parse_fuel : ∀ (n m : Nat) (a : Int) (t : List Int), t.length ≤ n → t.length ≤ m → parse n a t = parse m a t
  | n, m, a, [], _, _ => by rw [parse_nil, parse_nil]
  | 0, _, _, _ :: _, h, _ => absurd h (by simp)
  | _ + 1, 0, _, _ :: _, _, h => absurd h (by simp)
  | n + 1, m + 1, a, x :: t, h, h' => by
    cases hc : decT (x :: t) with
    | error e => rw [parse_err (by simp) hc, parse_err (by simp) hc]
    | ok r =>
      rw [parse_ok hc, parse_ok hc]
      obtain ⟨_, h2, _, h4⟩ := decT_ok hc
      rw [parse_fuel n m _ _ (by simp only [List.length_drop, List.length_cons] at *; omega) (by simp only [List.length_drop, List.length_cons] at *; omega)]
theorem decT_app {s : List Int} {r : Int × Int × Int} (t : List Int) (h : decT s = .ok r) : decT (s ++ t) = .ok r := by
  match s, h with
  | op :: s, h =>
    by_cases s0 : size op = 0
    · rw [decT_0 _ s0] at h; cases h
    by_cases s1 : size op = 1
    · rw [decT_1 _ s1] at h; rw [List.cons_append, decT_1 _ s1, h]
    match s, h with
    | [], h => rw [decT_n s0 s1] at h; cases h
    | b :: u, h =>
      by_cases s2 : size op = 2
      · rw [decT_2 _ _ s2] at h; rw [List.cons_append, List.cons_append, decT_2 _ _ s2, h]
      have s3 := size_3 s0 s1 s2
      match u, h with
      | [], h => rw [decT_m _ s3] at h; cases h
      | c :: v, h => rw [decT_3 _ _ _ s3] at h; rw [List.cons_append, List.cons_append, List.cons_append, decT_3 _ _ _ s3, h]
theorem decT_bad {s : List Int} {e : Int} (t : List Int) (he : e ≠ 11) (h : decT s = .error e) : decT (s ++ t) = .error e := by
  match s, h with
  | [], h => cases h; exact absurd rfl he
  | op :: s, h =>
    by_cases s0 : size op = 0
    · rw [decT_0 _ s0] at h; rw [List.cons_append, decT_0 _ s0, h]
    by_cases s1 : size op = 1
    · rw [decT_1 _ s1] at h; cases h
    match s, h with
    | [], h => rw [decT_n s0 s1] at h; cases h; exact absurd rfl he
    | b :: u, h =>
      by_cases s2 : size op = 2
      · rw [decT_2 _ _ s2] at h; cases h
      have s3 := size_3 s0 s1 s2
      match u, h with
      | [], h => rw [decT_m _ s3] at h; cases h; exact absurd rfl he
      | c :: v, h => rw [decT_3 _ _ _ s3] at h; cases h
theorem map_map (l l' : List S38) (p : Except (Int × Int) (List S38)) : (p.map (l' ++ ·)).map (l ++ ·) = p.map ((l ++ l') ++ ·) := by
  cases p <;> simp [Except.map]
theorem map_cons (x : S38) (l : List S38) (p : Except (Int × Int) (List S38)) : (p.map (l ++ ·)).map (x :: ·) = p.map ((x :: l) ++ ·) := by
  cases p <;> simp [Except.map]
theorem map_nil (p : Except (Int × Int) (List S38)) : p.map (([] : List S38) ++ ·) = p := by
  cases p <;> simp [Except.map]
theorem parse_app : ∀ (n m : Nat) (a : Int) (s t : List Int) (l : List S38), s.length ≤ n → (s ++ t).length ≤ m → parse n a s = .ok l → parse m a (s ++ t) = (parse m (a + s.length) t).map (l ++ ·)
  | n, m, a, [], t, l, _, _, h => by
    rw [parse_nil] at h; cases h
    rw [List.nil_append, map_nil]; simp
  | 0, _, _, _ :: _, _, _, h, _, _ => absurd h (by simp)
  | _ + 1, 0, _, _ :: _, _, _, _, h, _ => absurd h (by simp)
  | n + 1, m + 1, a, x :: s, t, l, hn, hm, h => by
    cases hc : decT (x :: s) with
    | error e => rw [parse_err (by simp) hc] at h; cases h
    | ok r =>
      obtain ⟨_, h2, _, h4⟩ := decT_ok hc
      rw [parse_ok hc] at h
      rw [parse_ok (decT_app t hc), List.drop_append_of_le_length (by omega)]
      have hd : ((x :: s).drop r.2.2.toNat).length = s.length + 1 - r.2.2.toNat := by simp
      simp only [List.length_cons, List.length_append] at hn hm h4
      cases hp : parse n (a + r.2.2) ((x :: s).drop r.2.2.toNat) with
      | error e => rw [hp] at h; cases h
      | ok l' =>
        rw [hp] at h; cases h
        rw [parse_app n m _ _ t l' (by omega) (by rw [List.length_append]; omega) hp, map_cons, hd]
        rw [show a + r.2.2 + ((s.length + 1 - r.2.2.toNat : Nat) : Int) = a + ((x :: s).length : Nat) by simp; omega]
        rw [parse_fuel m (m + 1) _ t (by omega) (by omega)]
theorem parse_bad : ∀ (n m : Nat) (a : Int) (s t : List Int) (k e : Int), s.length ≤ n → (s ++ t).length ≤ m → e ≠ 11 → parse n a s = .error (k, e) → parse m a (s ++ t) = .error (k, e)
  | n, m, a, [], t, k, e, _, _, _, h => by rw [parse_nil] at h; cases h
  | 0, _, _, _ :: _, _, _, _, h, _, _, _ => absurd h (by simp)
  | _ + 1, 0, _, _ :: _, _, _, _, _, h, _, _ => absurd h (by simp)
  | n + 1, m + 1, a, x :: s, t, k, e, hn, hm, he, h => by
    cases hc : decT (x :: s) with
    | error e' => rw [parse_err (by simp) hc] at h; cases h; rw [parse_err (by simp) (decT_bad t he hc)]
    | ok r =>
      obtain ⟨_, h2, _, h4⟩ := decT_ok hc
      rw [parse_ok hc] at h
      rw [parse_ok (decT_app t hc), List.drop_append_of_le_length (by omega)]
      have hd : ((x :: s).drop r.2.2.toNat).length = s.length + 1 - r.2.2.toNat := by simp
      simp only [List.length_cons, List.length_append] at hn hm h4
      cases hp : parse n (a + r.2.2) ((x :: s).drop r.2.2.toNat) with
      | ok l => rw [hp] at h; cases h
      | error e' =>
        rw [hp] at h; cases h
        rw [parse_bad n m _ _ t k e (by omega) (by rw [List.length_append]; omega) he hp]; rfl
def mv (d : Int) (x : S38) : S38 := ⟨x.f0 + d, x.f1, x.f2, x.f3⟩
def mvE (d : Int) : Except (Int × Int) (List S38) → Except (Int × Int) (List S38)
  | .error e => .error (e.1 + d, e.2)
  | .ok l => .ok (l.map (mv d))
theorem parse_mv (d : Int) : ∀ (n : Nat) (a : Int) (t : List Int), t.length ≤ n → parse n (a + d) t = mvE d (parse n a t)
  | n, a, [], _ => by rw [parse_nil, parse_nil]; rfl
  | 0, _, _ :: _, h => absurd h (by simp)
  | n + 1, a, x :: t, h => by
    cases hc : decT (x :: t) with
    | error e => rw [parse_err (by simp) hc, parse_err (by simp) hc]; rfl
    | ok r =>
      obtain ⟨_, h2, _, h4⟩ := decT_ok hc
      rw [parse_ok hc, parse_ok hc, show a + d + r.2.2 = a + r.2.2 + d by omega]
      rw [parse_mv d n _ _ (by simp only [List.length_drop, List.length_cons] at *; omega)]
      cases parse n (a + r.2.2) ((x :: t).drop r.2.2.toNat) <;> rfl
/-- The places are inside. -/
theorem parse_in : ∀ (n : Nat) (a : Int) (t : List Int), t.length ≤ n →
    (∀ l, parse n a t = .ok l → ∀ x ∈ l, a ≤ x.f0 ∧ x.f0 < a + t.length) ∧ (∀ k e, parse n a t = .error (k, e) → a ≤ k ∧ k < a + t.length ∧ (e = 11 ∨ e = 17))
  | n, a, [], _ => by rw [parse_nil]; exact ⟨fun l h => (by cases h; simp), fun k e h => (by cases h)⟩
  | 0, _, _ :: _, h => absurd h (by simp)
  | n + 1, a, x :: t, h => by
    cases hc : decT (x :: t) with
    | error e =>
      rw [parse_err (by simp) hc]
      exact ⟨fun l h => (by cases h), fun k e h => (by cases h; exact ⟨by omega, by simp only [List.length_cons]; omega, decT_err hc⟩)⟩
    | ok r =>
      obtain ⟨_, h2, _, h4⟩ := decT_ok hc
      rw [parse_ok hc]
      simp only [List.length_cons] at h h4 ⊢
      have hd : ((x :: t).drop r.2.2.toNat).length = t.length + 1 - r.2.2.toNat := by simp
      have ih := parse_in n (a + r.2.2) ((x :: t).drop r.2.2.toNat) (by omega)
      rw [hd] at ih
      cases hp : parse n (a + r.2.2) ((x :: t).drop r.2.2.toNat) with
      | error e' =>
        rw [hp] at ih
        exact ⟨fun l h => (by cases h), fun k e h => (by cases h; have := ih.2 k e rfl; exact ⟨by omega, by omega, this.2.2⟩)⟩
      | ok l =>
        rw [hp] at ih
        refine ⟨fun l' h => ?_, fun k e h => (by cases h)⟩
        cases h
        intro y hy
        rcases List.mem_cons.1 hy with rfl | hy
        · simp only; omega
        · have := ih.1 l rfl y hy; omega

/-! ### written, then read -/
def Good (i : S38) : Prop := size i.f1 ≠ 0 ∧ 0 ≤ i.f2 ∧ i.f2 < lim (size i.f1)
def flat : List S38 → List Int
  | [] => []
  | i :: l => codeOf i ++ flat l
def placed : Int → List S38 → List S38
  | _, [] => []
  | a, i :: l => ⟨a, i.f1, i.f2, size i.f1⟩ :: placed (a + size i.f1) l
theorem encS_ok : ∀ (l : List S38) (acc : List Int), (encS acc l).2 = 0 → (encS acc l).1 = acc ++ flat l ∧ ∀ i ∈ l, Good i
  | [], acc, _ => by simp [encS, flat]
  | i :: l, acc, h => by
    simp only [encS] at h ⊢
    by_cases h0 : size i.f1 = 0
    · rw [if_pos h0] at h; simp at h
    rw [if_neg h0] at h ⊢
    by_cases h1 : i.f2 < 0 ∨ lim (size i.f1) ≤ i.f2
    · rw [if_pos h1] at h; simp at h
    rw [if_neg h1] at h ⊢
    obtain ⟨e, g⟩ := encS_ok l _ h
    refine ⟨by rw [e, flat, List.append_assoc], fun x hx => ?_⟩
    rcases List.mem_cons.1 hx with rfl | hx
    · exact ⟨h0, by omega, by omega⟩
    · exact g x hx
theorem encS_of : ∀ (l : List S38) (acc : List Int), (∀ i ∈ l, Good i) → encS acc l = (acc ++ flat l, 0)
  | [], acc, _ => by simp [encS, flat]
  | i :: l, acc, h => by
    obtain ⟨h0, h1, h2⟩ := h i List.mem_cons_self
    simp only [encS]
    rw [if_neg h0, if_neg (by omega), encS_of l _ (fun x hx => h x (List.mem_cons_of_mem _ hx)), flat, List.append_assoc]
theorem op_in {op : Int} (h : size op ≠ 0) : 0 ≤ op ∧ op ≤ 45 := by
  by_cases h1 : op < 0 ∨ 45 < op
  · exact absurd (by unfold size; rw [if_pos h1]) h
  · omega
theorem decT_code (i : S38) (h : Good i) (t : List Int) : decT (codeOf i ++ t) = .ok (i.f1, i.f2, size i.f1) ∧ ((codeOf i).length : Int) = size i.f1 ∧ Bytes (codeOf i) := by
  obtain ⟨h0, h1, h2⟩ := h
  have hs := size_le i.f1
  have ho := op_in h0
  have e : i.f1 % 256 = i.f1 := by omega
  unfold codeOf
  rw [e]
  by_cases s1 : size i.f1 = 1
  · rw [s1]
    rw [if_neg (by omega), if_neg (by omega)]
    have h3 : i.f2 = 0 := by rw [s1] at h2; unfold lim at h2; rw [if_pos rfl] at h2; omega
    refine ⟨by simp only [List.append_nil, List.cons_append, List.nil_append]; rw [decT_1 _ s1, h3], by simp, fun x hx => ?_⟩
    simp at hx; omega
  by_cases s2 : size i.f1 = 2
  · rw [s2, if_neg (by omega), if_pos (by omega)]
    have h3 : i.f2 < 256 := by rw [s2] at h2; unfold lim at h2; rw [if_neg (by omega), if_pos rfl] at h2; exact h2
    have e2 : i.f2 % 256 = i.f2 := by omega
    rw [e2]
    refine ⟨by simp only [List.append_nil, List.cons_append, List.nil_append]; rw [decT_2 _ _ s2], by simp, fun x hx => ?_⟩
    simp at hx; omega
  have s3 := size_3 h0 s1 s2
  rw [s3, if_pos rfl, if_pos (by omega)]
  have h3 : i.f2 < 65536 := by rw [s3] at h2; unfold lim at h2; rw [if_neg (by omega), if_neg (by omega)] at h2; exact h2
  refine ⟨?_, by simp, fun x hx => ?_⟩
  · simp only [List.cons_append, List.nil_append]
    rw [decT_3 _ _ _ s3, show 256 * (i.f2 / 256 % 256) + i.f2 % 256 = i.f2 by omega]
  · simp at hx
    omega
theorem flat_bytes : ∀ (l : List S38), (∀ i ∈ l, Good i) → Bytes (flat l)
  | [], _ => fun x hx => by simp [flat] at hx
  | i :: l, h => fun x hx => by
    rw [flat] at hx
    rcases List.mem_append.1 hx with hx | hx
    · exact (decT_code i (h i List.mem_cons_self) []).2.2 x hx
    · exact flat_bytes l (fun x hx => h x (List.mem_cons_of_mem _ hx)) x hx
theorem flat_le : ∀ (l : List S38), (flat l).length ≤ 3 * l.length
  | [] => by simp [flat]
  | i :: l => by have := flat_le l; have := codeOf_le i; simp only [flat, List.length_append, List.length_cons]; omega
theorem parse_flat : ∀ (l : List S38) (n : Nat) (a : Int), (∀ i ∈ l, Good i) → (flat l).length ≤ n → parse n a (flat l) = .ok (placed a l)
  | [], n, a, _, _ => by simp only [flat, placed]; exact parse_nil _ _
  | i :: l, n, a, h, hn => by
    have hi := h i List.mem_cons_self
    obtain ⟨hd, hl, _⟩ := decT_code i hi (flat l)
    have := hi.1
    have := size_le i.f1
    simp only [flat, List.length_append] at hn ⊢
    obtain ⟨n, rfl⟩ : ∃ m, n = m + 1 := ⟨n - 1, by omega⟩
    rw [parse_ok hd]
    simp only
    rw [show (size i.f1).toNat = (codeOf i).length by omega, List.drop_left]
    rw [parse_flat l n _ (fun x hx => h x (List.mem_cons_of_mem _ hx)) (by omega)]
    rfl
theorem placed_len : ∀ (l : List S38) (a : Int), (placed a l).length = l.length
  | [], _ => rfl
  | i :: l, a => by simp [placed, placed_len l]
/-- The code ahead of the j-th instruction, and what is read there. -/
theorem placed_at : ∀ (l : List S38) (a : Int) (j : Nat) (x : S38), (∀ i ∈ l, Good i) → l[j]? = some x →
    (placed a l)[j]? = some ⟨a + (flat (l.take j)).length, x.f1, x.f2, size x.f1⟩ ∧ (flat l).drop (flat (l.take j)).length = codeOf x ++ flat (l.drop (j + 1)) ∧
    ((flat (l.take (j + 1))).length : Int) = (flat (l.take j)).length + size x.f1 ∧ (flat (l.take j)).length < (flat l).length ∧ Good x
  | [], a, j, x, _, h => by simp at h
  | i :: l, a, 0, x, hg, h => by
    simp only [List.getElem?_cons_zero, Option.some.injEq] at h
    subst h
    obtain ⟨_, hl, _⟩ := decT_code i (hg i List.mem_cons_self) []
    have h0 := (hg i List.mem_cons_self).1
    have := size_le i.f1
    refine ⟨by simp [placed, flat], by simp [flat], by simp [flat, hl], by simp only [List.take_zero, flat, List.length_nil, List.length_append]; omega, hg i List.mem_cons_self⟩
  | i :: l, a, j + 1, x, hg, h => by
    simp only [List.getElem?_cons_succ] at h
    obtain ⟨_, hl, _⟩ := decT_code i (hg i List.mem_cons_self) []
    obtain ⟨h1, h2, h3, h4, h5⟩ := placed_at l (a + size i.f1) j x (fun x hx => hg x (List.mem_cons_of_mem _ hx)) h
    refine ⟨?_, ?_, ?_, ?_, h5⟩
    · simp only [placed, List.getElem?_cons_succ, h1, List.take_succ_cons, flat, List.length_append, Option.some.injEq]
      congr 1
      omega
    · simp only [flat, List.take_succ_cons, List.length_append, List.drop_succ_cons]
      rw [← List.drop_drop, List.drop_left, h2]
    · simp only [flat, List.take_succ_cons, List.length_append]; omega
    · simp only [flat, List.take_succ_cons, List.length_append]; omega

/-! ### read, then written -/
theorem decT_back {t : List Int} {r : Int × Int × Int} (hb : Bytes t) (h : decT t = .ok r) (a : Int) : Good ⟨a, r.1, r.2.1, r.2.2⟩ ∧ codeOf ⟨a, r.1, r.2.1, r.2.2⟩ = t.take r.2.2.toNat := by
  match t, h with
  | op :: t, h =>
    by_cases s0 : size op = 0
    · rw [decT_0 _ s0] at h; cases h
    have ho := op_in s0
    by_cases s1 : size op = 1
    · rw [decT_1 _ s1] at h; cases h
      refine ⟨⟨s0, by simp, by simp [s1, lim]⟩, ?_⟩
      unfold codeOf
      simp only [s1]
      rw [if_neg (by omega), if_neg (by omega)]
      simp; omega
    match t, h with
    | [], h => rw [decT_n s0 s1] at h; cases h
    | b :: u, h =>
      have hbb := hb b (by simp)
      by_cases s2 : size op = 2
      · rw [decT_2 _ _ s2] at h; cases h
        refine ⟨⟨s0, hbb.1, by simp [s2, lim]; omega⟩, ?_⟩
        unfold codeOf
        simp only [s2]
        rw [if_neg (by omega), if_pos (by omega)]
        simp; omega
      have s3 := size_3 s0 s1 s2
      match u, h with
      | [], h => rw [decT_m _ s3] at h; cases h
      | c :: v, h =>
        have hcb := hb c (by simp)
        rw [decT_3 _ _ _ s3] at h; cases h
        refine ⟨⟨s0, by simp only; omega, by simp only [s3]; unfold lim; rw [if_neg (by omega), if_neg (by omega)]; omega⟩, ?_⟩
        unfold codeOf
        simp only [s3]
        simp; omega
theorem parse_back : ∀ (n : Nat) (a : Int) (t : List Int) (l : List S38), Bytes t → t.length ≤ n → parse n a t = .ok l → (∀ i ∈ l, Good i) ∧ flat l = t
  | n, a, [], l, _, _, h => by rw [parse_nil] at h; cases h; simp [flat]
  | 0, _, _ :: _, _, _, h, _ => absurd h (by simp)
  | n + 1, a, x :: t, l, hb, hn, h => by
    cases hc : decT (x :: t) with
    | error e => rw [parse_err (by simp) hc] at h; cases h
    | ok r =>
      obtain ⟨_, h2, _, h4⟩ := decT_ok hc
      rw [parse_ok hc] at h
      cases hp : parse n (a + r.2.2) ((x :: t).drop r.2.2.toNat) with
      | error e => rw [hp] at h; cases h
      | ok l' =>
        rw [hp] at h; cases h
        obtain ⟨hg, hf⟩ := parse_back n _ _ l' (fun x hx => hb x (List.mem_of_mem_drop hx)) (by simp only [List.length_drop, List.length_cons] at *; omega) hp
        obtain ⟨g, c⟩ := decT_back hb hc a
        refine ⟨fun y hy => ?_, ?_⟩
        · rcases List.mem_cons.1 hy with rfl | hy
          · exact g
          · exact hg y hy
        · rw [flat, c, hf, List.take_append_drop]
end Go.Proofs.YtndpdelkhmaliaaDoor.Pure
