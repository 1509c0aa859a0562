/- InstrFits, plainly. -/
import Derived.Test.YtldejfkplnejjaaDoorPure3c
import Derived.Test.YtldejfkplnejjaaDoorPureKnown4
import Derived.Test.YtldejfkplnejjaaDoorP16
import Derived.Test.YtldejfkplnejjaaDoorP17
namespace Go.Proofs.YtldejfkplnejjaaDoor.Pure
open Go.RowKit Go.Proofs.YtldejfkplnejjaaDoor.P Go.Proofs.YtldejfkplnejjaaDoorW.PrintWords Go.Proofs.YtldejfkplnejjaaDoor.Open
set_option linter.unusedVariables false
def nextS (a o n s : Int) : List Int := if size o = 0 ∨ o = 42 ∨ o = 43 ∨ o = 44 then [] else if o = 19 then [n] else if 19 ≤ o ∧ o ≤ 24 ∧ n ≠ wrap64 (a + s) then [wrap64 (a + s), n] else [wrap64 (a + s)]
theorem next_j (on a o n s : Int) (b : Bool) : Ev (fun k => instr_Next.j0 k on b a o n s) (if b = true then [] else if o = 19 then [n] else if 19 ≤ o ∧ o ≤ 24 ∧ n ≠ on then [on, n] else [on]) := by
  refine Ev.step (fun k => by rw [instr_Next.j0]) ?_
  cases b with
  | true => exact Ev_pos rfl (Ev.now _)
  | false =>
    refine Ev_neg Bool.false_ne_true ?_
    rw [if_neg Bool.false_ne_true]
    by_cases h : o = 19
    · exact Ev_pos h (by rw [if_pos h]; exact Ev.now _)
    refine Ev_neg h ?_
    rw [if_neg h]
    refine (Ev_bindc (jumps_f o) ?_)
    by_cases hj : 19 ≤ o ∧ o ≤ 24
    · rw [decide_eq_true hj]
      by_cases hn : n = on
      · exact Ev_pos rfl (Ev_pos hn (by rw [if_neg (by omega)]; exact Ev.now _))
      · exact Ev_pos rfl (Ev_neg hn (by rw [if_pos ⟨hj.1, hj.2, hn⟩]; exact Ev.now _))
    · rw [decide_eq_false hj]; exact Ev_neg Bool.false_ne_true (by rw [if_neg (by omega)]; exact Ev.now _)
theorem next_f (a o n s : Int) : Ev (fun k => instr_Next.f k a o n s) (nextS a o n s) := by
  unfold instr_Next.f nextS
  refine Ev.bind (size_f o) ?_
  by_cases h0 : size o = 0
  · rw [if_pos (.inl h0)]; exact Ev_pos h0 (by simpa using next_j (wrap64 (a + s)) a o n s true)
  refine Ev_neg h0 ?_
  by_cases h1 : o = 42
  · rw [if_pos (.inr (.inl h1))]; exact Ev_pos h1 (by simpa using next_j (wrap64 (a + s)) a o n s true)
  refine Ev_neg h1 ?_
  by_cases h2 : o = 43
  · rw [if_pos (.inr (.inr (.inl h2)))]; exact Ev_pos h2 (by simpa using next_j (wrap64 (a + s)) a o n s true)
  refine Ev_neg h2 ?_
  by_cases h3 : o = 44
  · rw [if_pos (.inr (.inr (.inr h3))), show (o == 44) = true by simp [h3]]; simpa using next_j (wrap64 (a + s)) a o n s true
  · rw [if_neg (by omega), show (o == 44) = false by simp [h3]]; simpa using next_j (wrap64 (a + s)) a o n s false
/-- Every place behind an instruction is the end, or begins one. -/
theorem parse_next : ∀ (n : Nat) (a : Int) (t : List Int) (l : List In), t.length ≤ n → parse n a t = .ok l → (t ≠ [] → ∃ y ∈ l, y.f0 = a) ∧ ∀ x ∈ l, (x.f0 + x.f3 = a + t.length ∨ ∃ y ∈ l, y.f0 = x.f0 + x.f3)
  | n, a, [], l, _, h => by rw [parse_nil] at h; cases h; exact ⟨fun h => absurd rfl h, fun x hx => by simp at hx⟩
  | 0, _, _ :: _, _, h, _ => absurd h (by simp)
  | n + 1, a, x :: t, l, hn, h => by
    cases hc : decT (x :: t) with
    | error e => rw [parse_err (by simp) hc] at h; cases h
    | ok r =>
      obtain ⟨_, h2, _, h4⟩ := decT_ok hc
      rw [parse_ok hc] at h
      simp only [List.length_cons] at hn h4 ⊢
      have hd : ((x :: t).drop r.2.2.toNat).length = t.length + 1 - r.2.2.toNat := by simp
      cases hp : parse n (a + r.2.2) ((x :: t).drop r.2.2.toNat) with
      | error e' => rw [hp] at h; cases h
      | ok l' =>
        have ih := parse_next n (a + r.2.2) ((x :: t).drop r.2.2.toNat) l' (by omega) hp
        rw [hp] at h
        cases h
        rw [hd] at ih
        refine ⟨fun _ => ⟨_, List.mem_cons_self .., rfl⟩, fun y hy => ?_⟩
        rcases List.mem_cons.1 hy with rfl | hy
        · by_cases he : (x :: t).drop r.2.2.toNat = []
          · rw [he] at hd
            simp only [List.length_nil] at hd
            left
            simp only
            omega
          · obtain ⟨y, hy, h0⟩ := ih.1 he
            exact .inr ⟨y, List.mem_cons_of_mem _ hy, h0⟩
        · rcases ih.2 y hy with h0 | ⟨z, hz, h0⟩
          · left; omega
          · exact .inr ⟨z, List.mem_cons_of_mem _ hz, h0⟩
theorem set_at (bg : List Bool) (q p : Nat) (h : q < bg.length) : (bg.set q true).getD p false = true ↔ bg.getD p false = true ∨ q = p := by
  rw [List.getD_eq_getElem?_getD, List.getD_eq_getElem?_getD, List.getElem?_set]
  by_cases hq : q = p
  · rw [if_pos hq, if_pos (by omega)]; simp [hq]
  · rw [if_neg hq]; simp [hq]
theorem mark_at : ∀ (is : List In) (bg : List Bool) (p : Nat), (∀ i ∈ is, 0 ≤ i.f0 ∧ i.f0 < bg.length) → ((markS bg is).getD p false = true ↔ bg.getD p false = true ∨ ∃ i ∈ is, i.f0 = p)
  | [], bg, p, _ => by simp [markS]
  | i :: r, bg, p, h => by
    have hi := h i (List.mem_cons_self ..)
    rw [markS, mark_at r _ p (fun x hx => by rw [List.length_set]; exact h x (List.mem_cons_of_mem _ hx)), set_at _ _ _ (by omega)]
    constructor
    · rintro ((h1 | h1) | ⟨y, hy, h1⟩)
      · exact .inl h1
      · exact .inr ⟨i, List.mem_cons_self .., by omega⟩
      · exact .inr ⟨y, List.mem_cons_of_mem _ hy, h1⟩
    · rintro (h1 | ⟨y, hy, h1⟩)
      · exact .inl (.inl h1)
      · rcases List.mem_cons.1 hy with rfl | hy
        · exact .inl (.inr (by omega))
        · exact .inr ⟨y, hy, h1⟩
theorem rep_at (n p : Nat) : (List.replicate n false).getD p false = false := by
  rw [List.getD_eq_getElem?_getD, List.getElem?_replicate]
  split <;> rfl
theorem fits_l2 (code : List Int) (loc : Int) (is : List In) (W : List Bool) (hW : W.length = code.length + 1) (hl : code.length ≤ 2000000) (j : Nat) (i : In) (hi : is[j]? = some i) (h34 : i.f1 = 3 ∨ i.f1 = 4 → i.f2 < loc) (ns : List Int) (hn : ns.length ≤ 2000000) (hns : ∀ n ∈ ns, 0 ≤ n ∧ n ≤ code.length ∧ W.getD n.toNat false = true)
    (next : Ev (fun k => keystonelaw4_InstrFits.l1 k code loc is W (wrap64 ((j : Int) + 1))) true) : ∀ (c q : Nat), q + c = ns.length → Ev (fun k => keystonelaw4_InstrFits.l2 k code loc is W (j : Int) ns (q : Int)) true
  | 0, q, hq => by
    have hj := (List.getElem?_eq_some_iff.1 hi).1
    refine Ev.step (fun k => by rw [keystonelaw4_InstrFits.l2, rdI hi]) (Ev_neg (by omega) (Ev_pos (by omega) (Ev_pos (by omega) ?_)))
    by_cases h3 : i.f1 = 3
    · exact Ev_pos h3 (Ev_neg (by have := h34 (.inl h3); omega) next)
    refine Ev_neg h3 ?_
    by_cases h4 : i.f1 = 4
    · exact Ev_pos h4 (Ev_neg (by have := h34 (.inr h4); omega) next)
    · exact Ev_neg h4 next
  | c + 1, q, hq => by
    obtain ⟨n, hn'⟩ := at_of (l := ns) (j := q) (by omega)
    have h := hns n (List.mem_of_getElem? hn')
    have hr : rd ns (q : Int) = n := getD_at rfl hn'
    have hw : wrap64 ((q : Int) + 1) = ((q + 1 : Nat) : Int) := by rw [w64] <;> omega
    have h5 : rdOf false W n = true := h.2.2
    have h6 := h.2.1
    have h7 := h.1
    refine Ev.step (fun k => by rw [keystonelaw4_InstrFits.l2, hr, hw]) ?_
    refine Ev_pos (by omega) (Ev_pos (by omega) (Ev_neg (by omega) (Ev_neg (by omega) (Ev_pos h.1 (Ev_pos (by omega) (Ev_pos h5 ?_))))))
    exact fits_l2 code loc is W hW hl j i hi h34 ns hn hns next c (q + 1) (by omega)
theorem fits_l1 (code : List Int) (loc : Int) (is : List In) (W : List Bool) (hW : W.length = code.length + 1) (hl : code.length ≤ 2000000) (hlen : is.length ≤ 2000000) (h34 : ∀ i ∈ is, i.f1 = 3 ∨ i.f1 = 4 → i.f2 < loc) (hns : ∀ i ∈ is, ∀ n ∈ nextS i.f0 i.f1 i.f2 i.f3, 0 ≤ n ∧ n ≤ code.length ∧ W.getD n.toNat false = true) : ∀ (c j : Nat), j + c = is.length → Ev (fun k => keystonelaw4_InstrFits.l1 k code loc is W (j : Int)) true
  | 0, j, hj => Ev.step (fun k => by rw [keystonelaw4_InstrFits.l1]) (Ev_neg (by omega) (Ev.now _))
  | c + 1, j, hj => by
    obtain ⟨i, hi⟩ := at_of (l := is) (j := j) (by omega)
    have hm := List.mem_of_getElem? hi
    have hw : wrap64 ((j : Int) + 1) = ((j + 1 : Nat) : Int) := by rw [w64] <;> omega
    refine Ev.step (fun k => by rw [keystonelaw4_InstrFits.l1, rdI hi]) (Ev_pos (by omega) (Ev_pos (by omega) (Ev.bind (next_f _ _ _ _) ?_)))
    refine fits_l2 code loc is W hW hl j i hi (h34 i hm) _ ?_ (hns i hm) ?_ _ 0 (Nat.zero_add _)
    · unfold nextS
      repeat' split
      all_goals simp
    · rw [hw]; exact fits_l1 code loc is W hW hl hlen h34 hns c (j + 1) (by omega)
theorem fits_l0 (code : List Int) (loc : Int) (is : List In) (hl : code.length ≤ 2000000) (hlen : is.length ≤ 2000000) : ∀ (c j : Nat) (bg : List Bool), j + c = is.length → bg.length = code.length + 1 → (∀ i ∈ is, 0 ≤ i.f0 ∧ i.f0 < code.length) →
    Ev (fun k => keystonelaw4_InstrFits.l1 k code loc is ((markS bg (is.drop j)).set code.length true) 0) true → Ev (fun k => keystonelaw4_InstrFits.l0 k code loc is bg (j : Int)) true
  | 0, j, bg, hj, hbg, hb, h => by
    rw [List.drop_of_length_le (by omega), markS] at h
    refine Ev.step (fun k => by rw [keystonelaw4_InstrFits.l0]) ?_
    exact Ev_neg (by omega) (Ev_pos (by omega) (Ev_pos (by omega) h))
  | c + 1, j, bg, hj, hbg, hb, h => by
    obtain ⟨i, hi⟩ := at_of (l := is) (j := j) (by omega)
    have h2 := hb i (List.mem_of_getElem? hi)
    rw [drop_at hi, markS] at h
    have hw : wrap64 ((j : Int) + 1) = ((j + 1 : Nat) : Int) := by rw [w64] <;> omega
    refine Ev.step (fun k => by rw [keystonelaw4_InstrFits.l0, rdI hi, hw]) (Ev_pos (by omega) (Ev_pos (by omega) (Ev_pos h2.1 (Ev_pos (by omega) ?_))))
    exact fits_l0 code loc is hl hlen c (j + 1) _ (by omega) (by rw [List.length_set]; exact hbg) hb h
theorem InstrFits (a0 : List Int) (a1 : List En) (a2 : Int) (h0 : (∀ x_ ∈ a0, (Lit.int .u8 x_).wf = true) ∧ a0.length ≤ maxLen ∧ a0.length * 1 ≤ 140737488351232) (h1 : (∀ x_ ∈ a1, ok50 x_) ∧ a1.length ≤ maxLen ∧ a1.length * 56 ≤ 140737488351232) (h2 : (Lit.int .i64 a2).wf = true) (B : (sumOf (fun x_ => 1) a0 + 1) + (sumOf m50 a1 + 1) + (1) ≤ 1048576) : ∃ k, keystonelaw4_InstrFits.f k a0 a1 a2 = some true := by
  refine Ev.rounds ?_
  have hb := bytes_of h0.1
  have hs : Small a1 := fun x hx => by
    have h := sumOf_mem (m := m50) hx
    unfold m50 at h
    have hB := B
    unfold m50 at hB
    omega
  obtain ⟨G, hG⟩ := told_e a1 hs
  unfold keystonelaw4_InstrFits.f
  refine Ev.bind known_t (Ev_pos rfl ?_)
  have stop : ∀ {x y z}, Ev (fun k => keystonelaw4_InstrFits.j0 k x y z true) true := fun {x y z} => by
    refine Ev.step (fun k => by rw [keystonelaw4_InstrFits.j0]) ?_
    exact Ev_pos rfl (Ev.now _)
  by_cases hl : (a0.length : Int) > 1100
  · exact Ev_pos hl stop
  refine Ev_neg hl ?_
  by_cases hm : (a1.length : Int) > 400
  · rw [decide_eq_true hm]; exact stop
  rw [decide_eq_false hm]
  refine Ev.step (fun k => by rw [keystonelaw4_InstrFits.j0]) ?_
  refine Ev_neg Bool.false_ne_true (Ev.bind (check_f a0 hb a1 G hG a2) ?_)
  by_cases he : (checkS G a0 a2).2 = 0
  · refine Ev_pos he (Ev.bind (all_f a0 hb (by omega)) ?_)
    obtain ⟨is, hn0, hn1, hp, hck⟩ := checkS_ok he hb
    obtain ⟨hgood, _⟩ := parse_back a0.length 0 a0 is hb (Nat.le_refl _) hp
    have hln := parse_len _ _ _ _ hp
    have hin := (parse_in a0.length 0 a0 (Nat.le_refl _)).1 is hp
    obtain ⟨hne, hnx⟩ := parse_next a0.length 0 a0 is (Nat.le_refl _) hp
    obtain ⟨y0, hy0, _⟩ := hne (fun h => hn0 (by rw [h]; rfl))
    have hpos : is ≠ [] := fun h => by rw [h] at hy0; simp at hy0
    have hpos' : 0 < is.length := List.length_pos_iff.2 hpos
    rw [hp]
    simp only [allOf, List.nil_append]
    refine Ev_pos trivial (Ev.step (fun k => by rw [keystonelaw4_InstrFits.j1]) ?_)
    have hw : wrap64 ((a0.length : Int) + 1) = ((a0.length + 1 : Nat) : Int) := by rw [w64] <;> omega
    rw [hw, Int.toNat_natCast]
    refine Ev_neg (by simp; exact hpos) (Ev_pos (by omega) (Ev_pos (by omega) ?_))
    refine fits_l0 a0 a2 is (by omega) (by omega) is.length 0 _ (Nat.zero_add _) (List.length_replicate) (fun i hi => by have := hin i hi; omega) ?_
    rw [List.drop_zero]
    have hml := markS_len is (List.replicate (a0.length + 1) false)
    rw [List.length_replicate] at hml
    have hat : ∀ p : Int, 0 ≤ p → (p = a0.length ∨ ∃ y ∈ is, y.f0 = p) → ((markS (List.replicate (a0.length + 1) false) is).set a0.length true).getD p.toNat false = true := fun p hp0 h => by
      rw [set_at _ _ _ (by omega)]
      rcases h with h | ⟨y, hy, h⟩
      · exact .inr (by omega)
      · refine .inl ((mark_at is _ _ (fun i hi => by have := hin i hi; rw [List.length_replicate]; omega)).2 (.inr ⟨y, hy, by omega⟩))
    refine fits_l1 a0 a2 is _ (by rw [List.length_set]; exact hml) (by omega) (by omega) (fun i hi h34 => ?_) (fun i hi n hn => ?_) is.length 0 (Nat.zero_add _)
    · have := hck i hi
      unfold ckS at this
      rw [if_pos h34] at this
      split at this
      · simp at this
      · omega
    · have hi0 := hin i hi
      have hwz : wrap64 (i.f0 + i.f3) = i.f0 + i.f3 ∧ (0 ≤ i.f0 + i.f3 ∧ i.f0 + i.f3 ≤ a0.length ∧ (i.f0 + i.f3 = a0.length ∨ ∃ y ∈ is, y.f0 = i.f0 + i.f3)) := by
        rcases hnx i hi with h | ⟨y, hy, h⟩
        · refine ⟨w64 (by omega) (by omega), by omega, by omega, .inl (by omega)⟩
        · have := hin y hy
          exact ⟨w64 (by omega) (by omega), by omega, by omega, .inr ⟨y, hy, h⟩⟩
      have hjump : 19 ≤ i.f1 ∧ i.f1 ≤ 24 → 0 ≤ i.f2 ∧ i.f2 ≤ a0.length ∧ ∃ y ∈ is, y.f0 = i.f2 := fun hj => by
        have hc := hck i hi
        unfold ckS at hc
        rw [if_neg (by omega), if_pos hj] at hc
        have hnot : ¬ (i.f2 ≥ ((markS (List.replicate a0.length false) is).length : Int) ∨ (markS (List.replicate a0.length false) is).getD i.f2.toNat false = false) := fun h => by rw [if_pos h] at hc; simp at hc
        rw [markS_len, List.length_replicate] at hnot
        have h2 := (hgood i hi).2.1
        have h3 : (markS (List.replicate a0.length false) is).getD i.f2.toNat false = true := by
          cases h : (markS (List.replicate a0.length false) is).getD i.f2.toNat false with
          | true => rfl
          | false => exact absurd (.inr h) hnot
        rcases (mark_at is _ _ (fun i hi => by have := hin i hi; rw [List.length_replicate]; omega)).1 h3 with h4 | ⟨y, hy, h4⟩
        · rw [rep_at] at h4; cases h4
        · exact ⟨h2, by omega, y, hy, by omega⟩
      have hfall : ∀ m, m = wrap64 (i.f0 + i.f3) → 0 ≤ m ∧ m ≤ (a0.length : Int) ∧ ((markS (List.replicate (a0.length + 1) false) is).set a0.length true).getD m.toNat false = true := fun m hm => by
        rw [hwz.1] at hm
        subst hm
        exact ⟨hwz.2.1, hwz.2.2.1, hat _ hwz.2.1 hwz.2.2.2⟩
      have hto : 19 ≤ i.f1 ∧ i.f1 ≤ 24 → 0 ≤ i.f2 ∧ i.f2 ≤ (a0.length : Int) ∧ ((markS (List.replicate (a0.length + 1) false) is).set a0.length true).getD i.f2.toNat false = true := fun hj => by
        obtain ⟨q0, q1, q2⟩ := hjump hj
        exact ⟨q0, q1, hat _ q0 (.inr q2)⟩
      unfold nextS at hn
      split at hn
      · simp at hn
      · split at hn
        · rename_i h19
          rw [List.mem_singleton] at hn
          subst hn
          exact hto (by omega)
        · split at hn
          · rename_i hj
            rcases List.mem_cons.1 hn with hn | hn
            · exact hfall n hn
            · rw [List.mem_singleton] at hn
              subst hn
              exact hto ⟨hj.1, hj.2.1⟩
          · rw [List.mem_singleton] at hn
            exact hfall n hn
  · exact Ev_neg he (Ev.now _)
end Go.Proofs.YtldejfkplnejjaaDoor.Pure
