/- Chapter 2, plainly: the document's reading of a signature, its writing, its comparing. -/
import Derived.Test.YtlajkmnmooilmaaDoorPure2t
import Derived.Test.YtlajkmnmooilmaaDoorPure2d
import Derived.Test.YtlajkmnmooilmaaDoorPure2d
import Derived.Test.YtlajkmnmooilmaaDoorP16
import Derived.Test.YtlajkmnmooilmaaDoorP18
namespace Go.Proofs.YtlajkmnmooilmaaDoor.Pure
open Go.RowKit Go.Proofs.YtlajkmnmooilmaaDoor.P Go.Proofs.YtlajkmnmooilmaaDoorW.PrintWords
set_option linter.unusedVariables false
/-! ### the document's reading -/
theorem rsig_l : ∀ (f : Nat) (acc : List Ty) (s : ByteArray) (a : Nat), s.size ≤ a + f → a ≤ s.size → s.size ≤ 1000000000000 → acc.length + s.size ≤ 1000000000000 + a → Ev (fun k => keystoneref2_Sig.l0 k s (a : Int) acc false 0 ⟨#[]⟩) (sigP f acc ((LL s).drop a))
  | f, acc, s, a, hf, ha, hs, hacc => by
    have hl := LL_length s
    have hdl : ((LL s).drop a).length = s.size - a := by rw [List.length_drop, hl]
    have hw : wrap64 ((a : Int) + 1) = ((a + 1 : Nat) : Int) := by rw [w64] <;> omega
    refine Ev.step (fun k => by rw [keystoneref2_Sig.l0]) ?_
    match hu : (LL s).drop a, f with
    | [], f =>
      rw [hu] at hdl
      simp only [List.length_nil] at hdl
      refine Ev_neg (by omega) (Ev.step (fun k => by rw [keystoneref2_Sig.j2]) (Ev_neg Bool.false_ne_true (Ev_pos (by omega) ?_)))
      cases f <;> exact Ev.now _
    | c :: t, 0 => rw [hu] at hdl; simp at hdl; omega
    | c :: t, f + 1 =>
      rw [hu] at hdl
      simp only [List.length_cons] at hdl
      have hc : (LL s)[a]? = some c := by
        have : ((LL s).drop a)[0]? = some c := by rw [hu]; rfl
        rw [List.getElem?_drop] at this
        exact this
      have hd := drop_at hc
      rw [hu] at hd
      have ht : t = (LL s).drop (a + 1) := by injection hd
      have hbt := bt_of hc
      refine Ev_pos (by omega) (Ev_pos (by omega) ?_)
      by_cases h41 : c = 41
      · have e : (bt s (a : Int) != 41) = false := by rw [hbt, h41]; rfl
        rw [e]
        refine Ev.step (fun k => by rw [keystoneref2_Sig.j2, hw]) (Ev_neg Bool.false_ne_true (Ev_neg (by omega) (Ev_pos (by omega) (Ev_pos (by omega) ?_))))
        have hx : s.extract (((a + 1 : Nat) : Int)).toNat s.size = BA t := by rw [Int.toNat_natCast, extract_BA, ← ht]
        rw [hx]
        simp only [sigP]
        rw [if_pos h41]
        unfold sigE
        by_cases hv : t = [86]
        · rw [if_pos hv]
          refine Ev_pos (by rw [toList_LL, LL_BA]; exact hv) ?_
          by_cases h16 : 16 < acc.length
          · exact Ev_pos (by omega) (by rw [if_pos h16]; exact Ev.now _)
          · exact Ev_neg (by omega) (by rw [if_neg h16]; exact Ev.now _)
        · rw [if_neg hv]
          refine Ev_neg (by rw [toList_LL, LL_BA]; exact hv) (Ev.bind (rtype_f _ (by rw [BA_size]; omega)) ?_)
          rw [LL_BA]
          unfold typeL
          cases hfl : firstL t with
          | none => exact Ev_neg (by simp) (Ev.now _)
          | some q =>
            obtain ⟨n, m, r⟩ := q
            cases r with
            | nil =>
              refine Ev_pos rfl ?_
              by_cases h16 : 16 < acc.length
              · exact Ev_pos (by omega) (by simp only; rw [if_pos h16]; exact Ev.now _)
              · exact Ev_neg (by omega) (by simp only; rw [if_neg h16]; exact Ev.now _)
            | cons x r => exact Ev_neg (by simp) (Ev.now _)
      · have e : (bt s (a : Int) != 41) = true := by
          rw [hbt]
          simp only [bne_iff_ne, ne_eq]
          exact fun h => h41 ((u8_eq (n := 41) (by omega)).1 h)
        rw [e]
        obtain ⟨g, hg⟩ := one_f s (by omega) a ha
        rw [hu] at hg
        refine Ev.step (fun k => by rw [keystoneref2_Sig.j2]) (Ev_pos rfl (Ev.bind hg ?_))
        simp only [sigP]
        rw [if_neg h41]
        cases hfl : firstL (c :: t) with
        | none => exact Ev_pos (show (-1 : Int) < 0 by omega) (Ev.now _)
        | some q =>
          obtain ⟨n, m, r⟩ := q
          obtain ⟨h1, h2, h3⟩ := first_len hfl
          have hr := first_rest hfl
          simp only [List.length_cons] at h1
          refine Ev_neg (show ¬ (((s.size - r.length : Nat) : Int) < 0) by omega) (Ev_pos (by omega) ?_)
          have ih := rsig_l f (acc ++ [⟨(n : Int), BA m⟩]) s (s.size - r.length) (by omega) (by omega) hs (by simp; omega)
          have e2 : (LL s).drop (s.size - r.length) = r := by
            obtain ⟨p, hp⟩ := hr
            have e3 : LL s = ((LL s).take a ++ p) ++ r := by rw [List.append_assoc, hp, ← hu, List.take_append_drop]
            have e4 : s.size - r.length = ((LL s).take a ++ p).length := by
              have := congrArg List.length e3
              rw [List.length_append, hl] at this
              omega
            rw [e4]
            exact (congrArg (List.drop _) e3).trans List.drop_left
          rw [e2] at ih
          exact ih
theorem rsig_f (s : ByteArray) (hs : s.size ≤ 1000000000000) : Ev (fun k => keystoneref2_Sig.f k s) (sigS (LL s)) := by
  unfold keystoneref2_Sig.f
  have hl := LL_length s
  cases hu : LL s with
  | nil =>
    refine Ev_pos (by rw [toList_LL, hu]) (Ev.step (fun k => by rw [keystoneref2_Sig.j0]) ?_)
    exact Ev_pos rfl (Ev.now _)
  | cons c t =>
    rw [hu] at hl
    simp only [List.length_cons] at hl
    have hc : (LL s)[0]? = some c := by rw [hu]; rfl
    have hbt : bt s 0 = (c.toNat : Int) := bt_of hc
    refine Ev_neg (by rw [toList_LL, hu]; simp) (Ev_pos (by omega) ?_)
    by_cases h : c = 40
    · have e : (bt s 0 != 40) = false := by rw [hbt, h]; rfl
      rw [e]
      refine Ev.step (fun k => by rw [keystoneref2_Sig.j0]) (Ev_neg Bool.false_ne_true ?_)
      have := rsig_l t.length [] s 1 (by omega) (by omega) hs (by simp; omega)
      rw [hu, h] at *
      exact this
    · have e : (bt s 0 != 40) = true := by
        rw [hbt]
        simp only [bne_iff_ne, ne_eq]
        exact fun h' => h ((u8_eq (n := 40) (by omega)).1 h')
      rw [e]
      refine Ev.step (fun k => by rw [keystoneref2_Sig.j0]) (Ev_pos rfl ?_)
      have e : sigS (c :: t) = ([], false, 0, ⟨#[]⟩, 15) := by
        unfold sigS
        split
        · rename_i h2; simp at h2; exact absurd h2.1 h
        · rfl
      rw [e]
      exact Ev.now _

theorem rsigt_l (v : Bool) (d : Int) (m : ByteArray) (hm : m.size ≤ 140737488355328) (ps : List Ty) (hz : ∀ t ∈ ps, t.f1.size ≤ 140737488355328) (h16 : ps.length ≤ 16) : ∀ (c : Nat) (a b : List Ty), b.length = c → ps = a ++ b → parE a = 0 →
    Ev (fun k => keystoneref2_SigText.l0 k (BA (40 :: parT a)) (a.length : Int) ps v d m) (sigT ps v d m)
  | 0, a, b, hc, hab, ha => by
    have hb : b = [] := List.length_eq_zero_iff.1 hc
    subst hb
    rw [List.append_nil] at hab
    subst hab
    have hpl := parT_len ps ha
    have s1 : (BA (40 :: parT ps)).size ≤ 1000 := by rw [BA_size, List.length_cons]; omega
    have s2 : (BA (40 :: parT ps) ++ (⟨#[41]⟩ : ByteArray)).size ≤ 1001 := by rw [ByteArray.size_append]; exact Nat.add_le_add s1 (Nat.le_refl 1)
    refine Ev.step (fun k => by rw [keystoneref2_SigText.l0, res0]) (Ev_neg (by omega) ?_)
    cases v with
    | true =>
      refine Ev_pos rfl ?_
      by_cases h0 : d = 0 ∧ LL m = []
      · rw [decide_eq_true h0, sigT_t0 h16 ha h0]
        refine Ev_neg (by simp) (Ev_pos (by omega) (Ev_const ?_))
        rw [show (⟨#[41, 86]⟩ : ByteArray) = BA [41, 86] from rfl, BA_append]
      · rw [decide_eq_false h0, sigT_t1 h16 ha h0]
        exact Ev_pos rfl (Ev.now _)
    | false =>
      refine Ev_neg Bool.false_ne_true (Ev.bind (rtext_f _ _ hm) ?_)
      by_cases hc : chk d m = 0
      · rw [textS_0 hc, sigT_f0 h16 ha hc]
        have := textL_len _ _ hc
        exact Ev_pos rfl (Ev_pos (by omega) (Ev_pos (by simp only [BA_size] at *; omega) (Ev_const (by rw [put41]))))
      · rw [textS_1 hc, sigT_f1 h16 ha hc]
        exact Ev_neg hc (Ev.now _)
  | c + 1, a, [], hc, hab, ha => by simp at hc
  | c + 1, a, t :: b, hc, hab, ha => by
    have hlen : ps.length = a.length + (b.length + 1) := by rw [hab]; simp
    have hat : ps[a.length]? = some t := by rw [hab]; simp
    have hin : t ∈ ps := by rw [hab]; simp
    have hpl := parT_len a ha
    have hw : wrap64 ((a.length : Int) + 1) = ((a ++ [t]).length : Int) := by rw [w64 (by omega) (by omega)]; simp
    refine Ev.step (fun k => by rw [keystoneref2_SigText.l0, rdT ps hat, hw]) (Ev_pos (by omega) (Ev_pos (by omega) (Ev.bind (rtext_f _ _ (hz t hin)) ?_)))
    by_cases hk : chk t.f0 t.f1 = 0
    · rw [textS_0 hk]
      have := textL_len _ _ hk
      refine Ev_pos rfl (Ev_pos (by simp only [BA_size, List.length_cons]; omega) ?_)
      have ih := rsigt_l v d m hm ps hz h16 c (a ++ [t]) b (by simpa using hc) (by rw [hab]; simp) (by rw [parE_append a _ ha, parE, if_pos hk]; rfl)
      rw [parT_append, show parT [t] = textL t.f0.toNat (LL t.f1) by simp [parT]] at ih
      rw [BA_append]
      exact ih
    · rw [textS_1 hk]
      have e : parE ps = chk t.f0 t.f1 := by rw [hab, parE_append a _ ha, parE, if_neg hk]
      rw [sigT_e h16 (by rw [e]; exact hk), e]
      exact Ev_neg hk (Ev.now _)
theorem rsigt_f (ps : List Ty) (v : Bool) (d : Int) (m : ByteArray) (hm : m.size ≤ 140737488355328) (hz : ∀ t ∈ ps, t.f1.size ≤ 140737488355328) : Ev (fun k => keystoneref2_SigText.f k ps v d m) (sigT ps v d m) := by
  unfold keystoneref2_SigText.f
  by_cases h16 : 16 < ps.length
  · rw [sigT_16 h16]; exact Ev_pos (by omega) (Ev.now _)
  · exact Ev_neg (by omega) (rsigt_l v d m hm ps hz (by omega) _ [] ps rfl rfl rfl)

theorem rsame_l (v : Bool) (d : Int) (m : ByteArray) (w : Bool) (e : Int) (n : ByteArray) (l r : List Ty) (hlr : l.length = r.length) (hb : l.length ≤ 140737488355328) : ∀ (c j : Nat), j + c = l.length → Ev (fun k => keystoneref2_Same.l0 k (j : Int) l v d m r w e n) (sameL (l.drop j) (r.drop j))
  | 0, j, hj => by
    rw [List.drop_of_length_le (by omega), List.drop_of_length_le (by omega)]
    refine Ev.step (fun k => by rw [keystoneref2_Same.l0]) ?_
    exact Ev_neg (by omega) (Ev.now _)
  | c + 1, j, hj => by
    obtain ⟨x, hx⟩ := at_of (l := l) (j := j) (by omega)
    obtain ⟨y, hy⟩ := at_of (l := r) (j := j) (by omega)
    rw [drop_at hx, drop_at hy, sameL]
    refine Ev.step (fun k => by rw [keystoneref2_Same.l0, rdT l hx, rdT r hy, tyE_n]) (Ev_pos (by omega) (Ev_pos (by omega) (Ev_pos (by omega) ?_)))
    cases ht : tyE x y with
    | true =>
      refine Ev_neg (by simp) ?_
      rw [show wrap64 ((j : Int) + 1) = ((j + 1 : Nat) : Int) by rw [w64] <;> omega, Bool.true_and]
      exact rsame_l v d m w e n l r hlr hb c (j + 1) (by omega)
    | false => exact Ev_pos rfl (Ev.now _)
theorem rsame_f (ps : List Ty) (v : Bool) (d : Int) (m : ByteArray) (qs : List Ty) (w : Bool) (e : Int) (n : ByteArray) (hb : ps.length ≤ 140737488355328) : Ev (fun k => keystoneref2_Same.f k ps v d m qs w e n) (sameS ps v d m qs w e n) := by
  unfold keystoneref2_Same.f
  have jt : ∀ b, sameS ps v d m qs w e n = false → b = true → Ev (fun k => keystoneref2_Same.j0 k b ps v d m qs w e n) (sameS ps v d m qs w e n) := fun b h hb => by
    subst hb; rw [h]
    refine Ev.step (fun k => by rw [keystoneref2_Same.j0]) ?_
    exact Ev_pos rfl (Ev.now _)
  by_cases h1 : (v != w) = true
  · exact Ev_pos h1 (jt _ (by unfold sameS; cases v <;> cases w <;> simp_all) rfl)
  refine Ev_neg h1 ?_
  by_cases h2 : (!(d == e) || (!(m.toList == n.toList))) = true
  · exact Ev_pos h2 (jt _ (by unfold sameS; rw [← Bool.not_and] at h2; rw [Bool.not_eq_true'] at h2; rw [h2]; simp) rfl)
  refine Ev_neg h2 ?_
  by_cases h3 : ps.length = qs.length
  · have e3 : ((ps.length : Int) != (qs.length : Int)) = false := by rw [h3]; simp
    rw [e3]
    refine Ev.step (fun k => by rw [keystoneref2_Same.j0]) (Ev_neg Bool.false_ne_true ?_)
    have hh := rsame_l v d m w e n ps qs h3 hb ps.length 0 (Nat.zero_add _)
    have e4 : sameS ps v d m qs w e n = sameL ps qs := by
      unfold sameS
      rw [← Bool.not_and, Bool.not_eq_true', Bool.not_eq_false] at h2
      rw [h2, show (v == w) = true by cases v <;> cases w <;> simp_all]
      simp
    rw [e4]
    exact hh
  · exact jt _ (by unfold sameS; rw [sameL_len h3]; simp) (by simp; omega)
end Go.Proofs.YtlajkmnmooilmaaDoor.Pure
