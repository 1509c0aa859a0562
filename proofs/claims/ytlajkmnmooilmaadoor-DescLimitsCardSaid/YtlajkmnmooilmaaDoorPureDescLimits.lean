/- DescLimits, plainly. -/
import Derived.Test.YtlajkmnmooilmaaDoorPure2u
import Derived.Test.YtlajkmnmooilmaaDoorPureKnown2
import Derived.Test.YtlajkmnmooilmaaDoorP28
import Derived.Test.YtlajkmnmooilmaaDoorP29
namespace Go.Proofs.YtlajkmnmooilmaaDoor.Pure
open Go.RowKit Go.Proofs.YtlajkmnmooilmaaDoor.P Go.Proofs.YtlajkmnmooilmaaDoorW.PrintWords
set_option linter.unusedVariables false
theorem within_f (a n : Int) (h0 : 0 < n) (h1 : n ≤ 1000) : ∃ r : Nat, (r : Int) < n ∧ keystonelaw2_within.f a n = some (r : Int) := by
  have hlo : -n < a.tmod n := Int.lt_tmod_of_pos a h0
  have hhi : a.tmod n < n := Int.tmod_lt_of_pos a h0
  unfold keystonelaw2_within.f
  rw [if_neg (by omega)]
  by_cases h : a.tmod n < 0
  · refine ⟨(a.tmod n + n).toNat, by omega, ?_⟩
    rw [if_pos h, w64 (by omega) (by omega), Int.toNat_of_nonneg (by omega)]
  · refine ⟨(a.tmod n).toNat, by omega, ?_⟩
    rw [if_neg h, Int.toNat_of_nonneg (by omega)]
/-- What a signature's text of that many types of one class reads as. -/
def limP (m : List UInt8) (p : Nat) : List Ty := List.replicate p ⟨0, BA m⟩
theorem limP_E (m : List UInt8) (hm : chk 0 (BA m) = 0) : ∀ p, parE (limP m p) = 0
  | 0 => rfl
  | p + 1 => by rw [limP, List.replicate_succ, parE, if_pos hm]; exact limP_E m hm p
theorem limP_T (m : List UInt8) (p : Nat) : parT (limP m (p + 1)) = parT (limP m p) ++ bodyL m := by
  rw [limP, List.replicate_succ', parT_append]
  congr 1
  simp [parT, textL, LL_BA]
theorem lim_l1 (m : List UInt8) (hm : chk 0 (BA m) = 0) (p : Nat) (hp : p < 22) : ∀ (c j : Nat), j + c = p → Ev (fun k => keystonelaw2_DescLimits.l1 k (p : Int) (BA m) (BA (bodyL m)) (BA (40 :: parT (limP m j))) (j : Int)) true
  | 0, j, hj => by
    have hj' : j = p := by omega
    subst hj'
    have hl := parT_len _ (limP_E m hm j)
    rw [limP, List.length_replicate] at hl
    have hb : (bodyL m).length ≤ 50 := by have := textL_len 0 (BA m) hm; rw [LL_BA] at this; exact this
    have e : ((BA (40 :: parT (limP m j)) ++ (⟨#[41]⟩ : ByteArray)) ++ BA (bodyL m)) = BA (40 :: (parT (limP m j) ++ 41 :: bodyL m)) := by rw [put41]; rfl
    have s1 : (BA (40 :: parT (limP m j))).size ≤ 1200 := by rw [BA_size, List.length_cons, limP]; omega
    have s2 : (BA (40 :: parT (limP m j)) ++ (⟨#[41]⟩ : ByteArray)).size ≤ 1201 := by rw [ByteArray.size_append]; exact Nat.add_le_add s1 (Nat.le_refl 1)
    have hf : sigS (40 :: (parT (limP m j) ++ 41 :: bodyL m)) = sigE (limP m j) (bodyL m) := by
      show sigP (parT (limP m j) ++ 41 :: bodyL m).length [] (parT (limP m j) ++ 41 :: bodyL m) = _
      rw [sigP_text _ _ _ [] (limP_E m hm j) (by simp)]; rfl
    have hq : sigE (limP m j) (bodyL m) = if 16 < j then ([], false, 0, ⟨#[]⟩, 4) else (limP m j, false, 0, BA m, 0) := by
      unfold sigE
      have ht := first_text 0 (BA m) hm []
      rw [List.append_nil, LL_BA] at ht
      have hx : textL (0 : Int).toNat m = bodyL m := rfl
      rw [hx] at ht
      obtain ⟨c, r, hc, _, h86⟩ := textL_head 0 m
      rw [show textL 0 m = bodyL m from rfl] at hc
      rw [if_neg (by rw [hc]; simp [h86]), ht]
      simp only [limP, List.length_replicate]
      rfl
    refine Ev.step (fun k => by rw [keystonelaw2_DescLimits.l1]) (Ev_neg (by omega) (Ev_pos (by omega) (Ev_pos (by simp only [BA_size] at *; omega) ?_)))
    rw [e]
    refine Ev.bind (dsig_f _ (by rw [BA_size]; simp only [List.length_cons, List.length_append, limP] at *; omega)) ?_
    rw [LL_BA, hf, hq]
    by_cases h16 : 16 < j
    · rw [if_pos h16]
      exact Ev_pos (by omega) (Ev_pos rfl (Ev_const rfl))
    · rw [if_neg h16]
      exact Ev_neg (by omega) (Ev_pos rfl (Ev_pos (by simp [limP]) (Ev_const (by simp))))
  | c + 1, j, hj => by
    have hl := parT_len _ (limP_E m hm j)
    rw [limP, List.length_replicate] at hl
    have hb : (bodyL m).length ≤ 50 := by have := textL_len 0 (BA m) hm; rw [LL_BA] at this; exact this
    refine Ev.step (fun k => by rw [keystonelaw2_DescLimits.l1]) (Ev_pos (by omega) (Ev_pos (by simp only [BA_size, List.length_cons, limP]; omega) ?_))
    rw [show wrap64 ((j : Int) + 1) = ((j + 1 : Nat) : Int) by rw [w64] <;> omega, BA_append]
    have ih := lim_l1 m hm p hp c (j + 1) (by omega)
    rw [limP_T] at ih
    exact ih
theorem lim_l0 (m : List UInt8) (hm : chk 0 (BA m) = 0) (p n : Nat) (hp : p < 22) (hn : n < 12) : ∀ (c j : Nat), j + c = n → Ev (fun k => keystonelaw2_DescLimits.l0 k (n : Int) (p : Int) (BA m) (BA (bodyL m)) (BA (textL j m)) (j : Int)) true
  | 0, j, hj => by
    have hj' : j = n := by omega
    subst hj'
    have hb : (bodyL m).length ≤ 50 := by have := textL_len 0 (BA m) hm; rw [LL_BA] at this; exact this
    have hs : (textL j m).length ≤ 100 := by unfold textL; rw [List.length_append, List.length_replicate]; omega
    have go : Ev (fun k => keystonelaw2_DescLimits.j2 k (p : Int) (BA m) (BA (bodyL m)) false) true := by
      refine Ev.step (fun k => by rw [keystonelaw2_DescLimits.j2]) (Ev_neg Bool.false_ne_true ?_)
      exact lim_l1 m hm p hp p 0 (Nat.zero_add _)
    refine Ev.step (fun k => by rw [keystonelaw2_DescLimits.l0]) (Ev_neg (by omega) (Ev.bind (type_f _ (by rw [BA_size]; omega)) ?_))
    rw [LL_BA]
    by_cases h8 : 8 < j
    · have e : typeL (textL j m) = (0, ⟨#[]⟩, 15) := by
        unfold typeL firstL textL
        rw [brk_rep, if_pos (by omega)]
      rw [e]
      exact Ev_pos (by omega) (Ev_pos rfl (Ev_neg (by decide +kernel) (Ev_neg (by omega) go)))
    · have hc : chk (j : Int) (BA m) = 0 := by
        obtain ⟨h0, h1, h2, h3⟩ := chk_0 hm
        unfold chk
        rw [if_neg (by omega)]
        unfold chk at hm
        rw [if_neg (by omega)] at hm
        exact hm
      have e := type_text (j : Int) (BA m) hc
      rw [LL_BA, Int.toNat_natCast] at e
      rw [e]
      refine Ev_neg (by omega) (Ev_pos (by omega) (Ev_pos rfl ?_))
      have hb : (!((j : Int) == (j : Int)) || (!((BA m).toList == (BA m).toList))) = false := by simp
      rw [hb]
      exact go
  | c + 1, j, hj => by
    have hb : (bodyL m).length ≤ 50 := by have := textL_len 0 (BA m) hm; rw [LL_BA] at this; exact this
    have hs : (textL j m).length ≤ 100 := by unfold textL; rw [List.length_append, List.length_replicate]; omega
    refine Ev.step (fun k => by rw [keystonelaw2_DescLimits.l0]) (Ev_pos (by omega) (Ev_pos (by rw [BA_size]; omega) ?_))
    rw [show wrap64 ((j : Int) + 1) = ((j + 1 : Nat) : Int) by rw [w64] <;> omega, show (⟨#[91]⟩ : ByteArray) = BA [91] from rfl, BA_append]
    exact lim_l0 m hm p n hp hn c (j + 1) (by omega)
theorem DescLimits (a0 a1 : Int) (a2 : ByteArray) (h0 : (Lit.int .i64 a0).wf = true) (h1 : (Lit.int .i64 a1).wf = true) (h2 : a2.size ≤ 140737488351232) : ∃ k, keystonelaw2_DescLimits.f k a0 a1 a2 = some true := by
  refine Ev.rounds ?_
  obtain ⟨n, hn, en⟩ := within_f a0 12 (by omega) (by omega)
  obtain ⟨p, hp, ep⟩ := within_f a1 22 (by omega) (by omega)
  unfold keystonelaw2_DescLimits.f
  refine Ev.bind known2_t (Ev_pos rfl (Ev_bindc en (Ev_bindc ep (Ev.bind (dname_f a2 (by omega)) ?_))))
  have go : ∀ m : List UInt8, chk 0 (BA m) = 0 → Ev (fun k => keystonelaw2_DescLimits.j0 k (n : Int) (p : Int) (BA m) (BA (bodyL m))) true := fun m hm => by
    refine Ev.step (fun k => by rw [keystonelaw2_DescLimits.j0]) ?_
    exact lim_l0 m hm p n (by omega) (by omega) n 0 (Nat.zero_add _)
  by_cases hnm : nm a2 = true
  · have hl := LL_length a2
    have h32 : nmL (LL a2) = true := hnm
    unfold nmL at h32
    simp only [Bool.and_eq_true, decide_eq_true_eq] at h32
    obtain ⟨_, hne, h32⟩ := h32
    refine Ev_pos hnm (Ev_pos (by omega) (Ev_pos (by rw [ByteArray.size_append]; show 1 + a2.size + 1 ≤ _; omega) ?_))
    have e : ((⟨#[76]⟩ : ByteArray) ++ a2) ++ (⟨#[59]⟩ : ByteArray) = BA (bodyL (LL a2)) := by
      unfold bodyL
      rw [if_neg hne, show (⟨#[76]⟩ : ByteArray) = BA [76] from rfl, show (⟨#[59]⟩ : ByteArray) = BA [59] from rfl]
      conv => lhs; rw [← BA_LL a2]
      rw [BA_append, BA_append]
      rfl
    rw [e]
    have := go (LL a2) (by
      unfold chk
      rw [if_neg (by omega), BA_LL]
      simp [hnm])
    rw [BA_LL] at this
    exact this
  · refine Ev_neg hnm ?_
    exact go [] (by decide +kernel)
end Go.Proofs.YtlajkmnmooilmaaDoor.Pure
