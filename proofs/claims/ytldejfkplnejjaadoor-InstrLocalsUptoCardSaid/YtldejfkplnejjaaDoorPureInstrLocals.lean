/- InstrLocals, plainly. -/
import Derived.Test.YtldejfkplnejjaaDoorPure3c
import Derived.Test.YtldejfkplnejjaaDoorPureKnown4
import Derived.Test.YtldejfkplnejjaaDoorP15
namespace Go.Proofs.YtldejfkplnejjaaDoor.Pure
open Go.RowKit Go.Proofs.YtldejfkplnejjaaDoor.P Go.Proofs.YtldejfkplnejjaaDoorW.PrintWords Go.Proofs.YtldejfkplnejjaaDoor.Open
set_option linter.unusedVariables false
def mostS : Int → List In → Int
  | acc, [] => acc
  | acc, i :: r => mostS (if i.f1 = 3 ∨ i.f1 = 4 then mx acc (i.f2 + 1) else acc) r
theorem mostS_le : ∀ (l : List In) (acc loc : Int), mostS acc l ≤ loc ↔ acc ≤ loc ∧ ∀ i ∈ l, (i.f1 = 3 ∨ i.f1 = 4) → i.f2 + 1 ≤ loc
  | [], acc, loc => by simp [mostS]
  | i :: r, acc, loc => by
    rw [mostS, mostS_le r]
    by_cases h : i.f1 = 3 ∨ i.f1 = 4
    · rw [if_pos h]
      have hm : mx acc (i.f2 + 1) ≤ loc ↔ acc ≤ loc ∧ i.f2 + 1 ≤ loc := by
        unfold mx
        split <;> omega
      rw [hm]
      constructor
      · rintro ⟨⟨h1, h2⟩, h3⟩
        refine ⟨h1, fun x hx hk => ?_⟩
        rcases List.mem_cons.1 hx with rfl | hx
        · exact h2
        · exact h3 x hx hk
      · rintro ⟨h1, h2⟩
        exact ⟨⟨h1, h2 i (List.mem_cons_self ..) h⟩, fun x hx hk => h2 x (List.mem_cons_of_mem _ hx) hk⟩
    · rw [if_neg h]
      constructor
      · rintro ⟨h1, h3⟩
        refine ⟨h1, fun x hx hk => ?_⟩
        rcases List.mem_cons.1 hx with rfl | hx
        · exact absurd hk h
        · exact h3 x hx hk
      · rintro ⟨h1, h2⟩
        exact ⟨h1, fun x hx hk => h2 x (List.mem_cons_of_mem _ hx) hk⟩
theorem loc_l0 (code : List Int) (l : List En) (loc e : Int) (is : List In) (hi : ∀ i ∈ is, 0 ≤ i.f2 ∧ i.f2 ≤ 70000) (hlen : is.length ≤ 2000000) : ∀ (c j : Nat) (acc : Int), j + c = is.length →
    Ev (fun k => if e = 0 then ((instr_Check.f k code l loc).bind fun bt => (if mostS acc (is.drop j) = 0 then (if ((bt.2 == 0) == true) = true then (if bt.2 = 0 then (some true) else (some (bt.2 == 43))) else (some false)) else (if ((bt.2 == 0) == (decide (loc ≥ mostS acc (is.drop j)))) = true then (if bt.2 = 0 then (some true) else (some (bt.2 == 43))) else (some false)))) else (some true)) true →
    Ev (fun k => keystonelaw4_InstrLocals.l0 k code l loc e is acc (j : Int)) true
  | 0, j, acc, hj, h => by
    rw [List.drop_of_length_le (by omega), mostS] at h
    refine Ev.step (fun k => by rw [keystonelaw4_InstrLocals.l0]) ?_
    exact Ev_neg (by omega) h
  | c + 1, j, acc, hj, h => by
    obtain ⟨i, hx⟩ := at_of (l := is) (j := j) (by omega)
    have h2 := hi i (List.mem_of_getElem? hx)
    rw [drop_at hx, mostS] at h
    have hw : wrap64 ((j : Int) + 1) = ((j + 1 : Nat) : Int) := by rw [w64] <;> omega
    have hv : wrap64 (i.f2 + 1) = i.f2 + 1 := by rw [w64] <;> omega
    refine Ev.step (fun k => by rw [keystonelaw4_InstrLocals.l0, rdI hx, hw, hv]) (Ev_pos (by omega) (Ev_pos (by omega) ?_))
    by_cases h3 : i.f1 = 3
    · rw [if_pos (.inl h3)] at h
      exact Ev_pos h3 (loc_l0 code l loc e is hi hlen c (j + 1) _ (by omega) h)
    refine Ev_neg h3 ?_
    by_cases h4 : i.f1 = 4
    · rw [if_pos (.inr h4)] at h
      exact Ev_pos h4 (loc_l0 code l loc e is hi hlen c (j + 1) _ (by omega) h)
    · rw [if_neg (by omega)] at h
      exact Ev_neg h4 (loc_l0 code l loc e is hi hlen c (j + 1) _ (by omega) h)
theorem InstrLocals (a0 : List Int) (a1 : List En) (a2 : Int) (h0 : (∀ x_ ∈ a0, (Lit.int .u8 x_).wf = true) ∧ a0.length ≤ maxLen ∧ a0.length * 1 ≤ 140737488351232) (h1 : (∀ x_ ∈ a1, ok50 x_) ∧ a1.length ≤ maxLen ∧ a1.length * 56 ≤ 140737488351232) (h2 : (Lit.int .i64 a2).wf = true) (B : (sumOf (fun x_ => 1) a0 + 1) + (sumOf m50 a1 + 1) + (1) ≤ 1048576) : ∃ k, keystonelaw4_InstrLocals.f k a0 a1 a2 = some true := by
  refine Ev.rounds ?_
  have hb := bytes_of h0.1
  have hs : Small a1 := fun x hx => by
    have h := sumOf_mem (m := m50) hx
    unfold m50 at h
    have hB := B
    unfold m50 at hB
    omega
  obtain ⟨G, hG⟩ := told_e a1 hs
  unfold keystonelaw4_InstrLocals.f
  refine Ev.bind known_t (Ev_pos rfl ?_)
  have stop : ∀ {x y z}, Ev (fun k => keystonelaw4_InstrLocals.j0 k x y z true) true := fun {x y z} => by
    refine Ev.step (fun k => by rw [keystonelaw4_InstrLocals.j0]) ?_
    exact Ev_pos rfl (Ev.now _)
  by_cases hl : (a0.length : Int) > 1100
  · exact Ev_pos hl stop
  refine Ev_neg hl ?_
  by_cases hm : (a1.length : Int) > 400
  · rw [decide_eq_true hm]; exact stop
  rw [decide_eq_false hm]
  refine Ev.step (fun k => by rw [keystonelaw4_InstrLocals.j0]) ?_
  refine Ev_neg Bool.false_ne_true (Ev.bind (check_f a0 hb a1 G hG 256) (Ev.bind (all_f a0 hb (by omega)) ?_))
  by_cases he : (checkS G a0 256).2 = 0
  · obtain ⟨is, hn0, hn1, hp, hck⟩ := checkS_ok he hb
    obtain ⟨hgood, _⟩ := parse_back a0.length 0 a0 is hb (Nat.le_refl _) hp
    have hln := parse_len _ _ _ _ hp
    have hi : ∀ i ∈ is, 0 ≤ i.f2 ∧ i.f2 ≤ 70000 := fun i hx => by
      have hg := hgood i hx
      refine ⟨hg.2.1, ?_⟩
      have := hg.2.2
      unfold lim at this
      split at this
      · omega
      · split at this <;> omega
    rw [hp]
    simp only [allOf, List.nil_append]
    refine loc_l0 a0 a1 a2 _ is hi (by omega) is.length 0 0 (Nat.zero_add _) ?_
    rw [List.drop_zero]
    refine Ev_pos he (Ev.bind (check_f a0 hb a1 G hG a2) ?_)
    have hc2 : checkS G a0 a2 = badS (ckS G a2 (markS (List.replicate a0.length false) is)) is := by
      unfold checkS
      rw [if_neg hn0, if_neg (by omega), hp]
    rw [hc2]
    have hls : ∀ i ∈ is, ckS G a2 (markS (List.replicate a0.length false) is) i = if i.f1 = 3 ∨ i.f1 = 4 then (if i.f2 ≥ a2 then 43 else 0) else 0 := fun i hx => by
      have h := hck i hx
      unfold ckS at h ⊢
      by_cases h34 : i.f1 = 3 ∨ i.f1 = 4
      · rw [if_pos h34, if_pos h34]
      · rw [if_neg h34] at h ⊢
        rw [if_neg h34]
        exact h
    have hz := badS_0 (ckS G a2 (markS (List.replicate a0.length false) is)) is
    have hv := badS_v (ckS G a2 (markS (List.replicate a0.length false) is)) is
    generalize badS (ckS G a2 (markS (List.replicate a0.length false) is)) is = r at hz hv
    have h43 : r.2 = 0 ∨ r.2 = 43 := by
      rcases hv with h | ⟨i, hx, hne, h⟩
      · exact .inl h
      · rw [hls i hx] at h hne
        right
        rw [h]
        split at hne
        · split at hne
          · rename_i a b; rw [if_pos a, if_pos b]
          · exact absurd rfl hne
        · exact absurd rfl hne
    have hM := mostS_le is 0
    have hr : r.2 = 0 ↔ ∀ i ∈ is, (i.f1 = 3 ∨ i.f1 = 4) → i.f2 + 1 ≤ a2 := by
      rw [hz]
      constructor
      · intro h i hx hk
        have := h i hx
        rw [hls i hx, if_pos hk] at this
        split at this
        · simp at this
        · omega
      · intro h i hx
        rw [hls i hx]
        by_cases hk : i.f1 = 3 ∨ i.f1 = 4
        · have := h i hx hk
          rw [if_pos hk, if_neg (by omega)]
        · rw [if_neg hk]
    by_cases hm0 : mostS 0 is = 0
    · have h0' := (hM 0).1 (by omega)
      have hr0 : r.2 = 0 := hr.2 fun i hx hk => by
        have h3 := h0'.2 i hx hk
        have h4 := (hi i hx).1
        omega
      refine Ev_const ?_
      rw [if_pos hm0, hr0]
      rfl
    · have h0m := ((hM (mostS 0 is)).1 (Int.le_refl _)).1
      refine Ev_const ?_
      rw [if_neg hm0]
      have hdec : ((r.2 == 0) == (decide (a2 ≥ mostS 0 is))) = true := by
        by_cases hr0 : r.2 = 0
        · have hall := hr.1 hr0
          have hge : a2 ≥ mostS 0 is := by
            by_cases h0a : 0 ≤ a2
            · exact (hM a2).2 ⟨h0a, hall⟩
            · exfalso
              apply hm0
              have : mostS 0 is ≤ 0 := (hM 0).2 ⟨Int.le_refl _, fun i hx hk => by have := hall i hx hk; omega⟩
              omega
          simp [hr0, hge]
        · have hlt : ¬ a2 ≥ mostS 0 is := fun h => hr0 (hr.2 ((hM a2).1 h).2)
          simp [hr0, hlt]
      rw [if_pos hdec]
      rcases h43 with h | h
      · rw [if_pos h]
      · rw [if_neg (by omega), h]; rfl
  · cases hp : parse a0.length 0 a0 with
    | error q =>
      simp only [allOf]
      refine loc_l0 a0 a1 a2 _ [] (fun i hx => by simp at hx) (by simp) 0 0 0 rfl ?_
      exact Ev_neg he (Ev.now _)
    | ok is =>
      obtain ⟨hgood, _⟩ := parse_back a0.length 0 a0 is hb (Nat.le_refl _) hp
      have hln := parse_len _ _ _ _ hp
      have hi : ∀ i ∈ is, 0 ≤ i.f2 ∧ i.f2 ≤ 70000 := fun i hx => by
        have hg := hgood i hx
        refine ⟨hg.2.1, ?_⟩
        have := hg.2.2
        unfold lim at this
        split at this
        · omega
        · split at this <;> omega
      simp only [allOf, List.nil_append]
      refine loc_l0 a0 a1 a2 _ is hi (by omega) is.length 0 0 (Nat.zero_add _) ?_
      exact Ev_neg he (Ev.now _)
end Go.Proofs.YtldejfkplnejjaaDoor.Pure
