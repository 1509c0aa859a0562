/- Chapter 2, plainly: the document's texts of types and signatures, its comparing. -/
import Derived.Test.YtlajkmnmooilmaaDoorPure2t
import Derived.Test.YtlajkmnmooilmaaDoorP10
import Derived.Test.YtlajkmnmooilmaaDoorP18
namespace Go.Proofs.YtlajkmnmooilmaaDoor.Pure
open Go.RowKit Go.Proofs.YtlajkmnmooilmaaDoor.P Go.Proofs.YtlajkmnmooilmaaDoorW.PrintWords
set_option linter.unusedVariables false
theorem pre_l (d : Int) (s : ByteArray) (m : List UInt8) (hm : m.length ≤ 1000) (hd : d ≤ 8) : ∀ (c j : Nat), (j : Int) + c = d → Ev (fun k => keystoneref2_TypeText.l0 k (BA (List.replicate j 91 ++ m)) (j : Int) d s) ((BA (List.replicate (j + c) 91 ++ m), 0) : ByteArray × Int)
  | 0, j, hj => by
    refine Ev.step (fun k => by rw [keystoneref2_TypeText.l0]) (Ev_neg (by omega) ?_)
    exact Ev.now _
  | c + 1, j, hj => by
    refine Ev.step (fun k => by rw [keystoneref2_TypeText.l0]) (Ev_pos (by omega) (Ev_pos (by rw [BA_size]; simp; omega) ?_))
    rw [show wrap64 ((j : Int) + 1) = ((j + 1 : Nat) : Int) by rw [w64] <;> omega, show (⟨#[91]⟩ : ByteArray) = BA [91] from rfl, BA_append]
    have ih := pre_l d s m hm hd c (j + 1) (by omega)
    rw [show j + (c + 1) = j + 1 + c by omega]
    rwa [show ([91] : List UInt8) ++ (List.replicate j 91 ++ m) = List.replicate (j + 1) 91 ++ m by simp [List.replicate_succ]]
theorem rtext_f (d : Int) (s : ByteArray) (hs : s.size ≤ 140737488355328) : Ev (fun k => keystoneref2_TypeText.f k d s) (textS d s) := by
  unfold keystoneref2_TypeText.f textS
  refine Ev.bind (rcheck_f d s hs) ?_
  by_cases h : chk d s = 0
  · rw [h]
    obtain ⟨h0, h1, h2, h3⟩ := chk_0 h
    have hl := LL_length s
    refine Ev_pos rfl ?_
    rw [if_pos rfl]
    have run : ∀ m : List UInt8, m.length ≤ 1000 → Ev (fun k => keystoneref2_TypeText.j0 k (BA m) d s) ((BA (List.replicate d.toNat 91 ++ m), 0) : ByteArray × Int) := fun m hm => by
      refine Ev.step (fun k => by rw [keystoneref2_TypeText.j0]) ?_
      have := pre_l d s m hm h1 d.toNat 0 (by omega)
      rw [Nat.zero_add] at this
      exact this
    by_cases h4 : s.toList = ([] : List UInt8)
    · refine Ev_pos h4 ?_
      have := run [73] (by simp)
      rw [toList_LL] at h4
      unfold textL bodyL
      rw [h4, if_pos rfl]
      exact this
    · have e : (BA [76] ++ s) ++ BA [59] = BA (76 :: LL s ++ [59]) := by
        conv => lhs; rw [← BA_LL s]
        rw [BA_append, BA_append]; rfl
      rw [show (⟨#[76]⟩ : ByteArray) = BA [76] from rfl, show (⟨#[59]⟩ : ByteArray) = BA [59] from rfl, e]
      refine Ev_neg h4 (Ev_pos (by omega) (Ev_pos ?_ ?_))
      · conv => lhs; rw [← BA_LL s]
        rw [BA_append, BA_size]; simp; omega
      · have := run (76 :: LL s ++ [59]) (by simp; omega)
        rw [toList_LL] at h4
        unfold textL bodyL
        rw [if_neg h4]
        exact this
  · exact Ev_neg h (by rw [if_neg h]; exact Ev.now _)
theorem rsigt_l (v : Bool) (d : Int) (m : ByteArray) (hm : m.size ≤ 140737488355328) (ps : List Ty) (hz : ∀ t ∈ ps, t.f1.size ≤ 140737488355328) (h16 : ps.length ≤ 16) : ∀ (c : Nat) (a b : List Ty), b.length = c → ps = a ++ b → parE a = 0 →
    Ev (fun k => keystoneref2_SigText.l0 k (BA (40 :: parT a)) (a.length : Int) ps v d m) (sigT ps v d m)
  | 0, a, b, hc, hab, ha => by
    have hb : b = [] := List.length_eq_zero_iff.1 hc
    subst hb
    rw [List.append_nil] at hab
    subst hab
    have hpl := parT_len ps ha
    have s1 : (BA (40 :: parT ps)).size ≤ 1000 := by rw [BA_size, List.length_cons]; omega
    have s2 : (BA (40 :: parT ps) ++ (⟨#[41]⟩ : ByteArray)).size ≤ 1001 := by rw [ByteArray.size_append]; exact Nat.add_le_add s1 (Nat.le_refl 1)
    refine Ev.step (fun k => by rw [keystoneref2_SigText.l0, res0]) (Ev_neg (by omega) ?_)
    cases v with
    | true =>
      refine Ev_pos rfl ?_
      by_cases h0 : d = 0 ∧ LL m = []
      · rw [decide_eq_true h0, sigT_t0 h16 ha h0]
        refine Ev_neg (by simp) (Ev_pos (by omega) (Ev_const ?_))
        rw [show (⟨#[41, 86]⟩ : ByteArray) = BA [41, 86] from rfl, BA_append]
      · rw [decide_eq_false h0, sigT_t1 h16 ha h0]
        exact Ev_pos rfl (Ev.now _)
    | false =>
      refine Ev_neg Bool.false_ne_true (Ev.bind (rtext_f _ _ hm) ?_)
      by_cases hc : chk d m = 0
      · rw [textS_0 hc, sigT_f0 h16 ha hc]
        have := textL_len _ _ hc
        exact Ev_pos rfl (Ev_pos (by omega) (Ev_pos (by simp only [BA_size] at *; omega) (Ev_const (by rw [put41]))))
      · rw [textS_1 hc, sigT_f1 h16 ha hc]
        exact Ev_neg hc (Ev.now _)
  | c + 1, a, [], hc, hab, ha => by simp at hc
  | c + 1, a, t :: b, hc, hab, ha => by
    have hlen : ps.length = a.length + (b.length + 1) := by rw [hab]; simp
    have hat : ps[a.length]? = some t := by rw [hab]; simp
    have hin : t ∈ ps := by rw [hab]; simp
    have hpl := parT_len a ha
    have hw : wrap64 ((a.length : Int) + 1) = ((a ++ [t]).length : Int) := by rw [w64 (by omega) (by omega)]; simp
    refine Ev.step (fun k => by rw [keystoneref2_SigText.l0, rdT ps hat, hw]) (Ev_pos (by omega) (Ev_pos (by omega) (Ev.bind (rtext_f _ _ (hz t hin)) ?_)))
    by_cases hk : chk t.f0 t.f1 = 0
    · rw [textS_0 hk]
      have := textL_len _ _ hk
      refine Ev_pos rfl (Ev_pos (by simp only [BA_size, List.length_cons]; omega) ?_)
      have ih := rsigt_l v d m hm ps hz h16 c (a ++ [t]) b (by simpa using hc) (by rw [hab]; simp) (by rw [parE_append a _ ha, parE, if_pos hk]; rfl)
      rw [parT_append, show parT [t] = textL t.f0.toNat (LL t.f1) by simp [parT]] at ih
      rw [BA_append]
      exact ih
    · rw [textS_1 hk]
      have e : parE ps = chk t.f0 t.f1 := by rw [hab, parE_append a _ ha, parE, if_neg hk]
      rw [sigT_e h16 (by rw [e]; exact hk), e]
      exact Ev_neg hk (Ev.now _)
theorem rsigt_f (ps : List Ty) (v : Bool) (d : Int) (m : ByteArray) (hm : m.size ≤ 140737488355328) (hz : ∀ t ∈ ps, t.f1.size ≤ 140737488355328) : Ev (fun k => keystoneref2_SigText.f k ps v d m) (sigT ps v d m) := by
  unfold keystoneref2_SigText.f
  by_cases h16 : 16 < ps.length
  · rw [sigT_16 h16]; exact Ev_pos (by omega) (Ev.now _)
  · exact Ev_neg (by omega) (rsigt_l v d m hm ps hz (by omega) _ [] ps rfl rfl rfl)

theorem rsame_l (v : Bool) (d : Int) (m : ByteArray) (w : Bool) (e : Int) (n : ByteArray) (l r : List Ty) (hlr : l.length = r.length) (hb : l.length ≤ 140737488355328) : ∀ (c j : Nat), j + c = l.length → Ev (fun k => keystoneref2_Same.l0 k (j : Int) l v d m r w e n) (sameL (l.drop j) (r.drop j))
  | 0, j, hj => by
    rw [List.drop_of_length_le (by omega), List.drop_of_length_le (by omega)]
    refine Ev.step (fun k => by rw [keystoneref2_Same.l0]) ?_
    exact Ev_neg (by omega) (Ev.now _)
  | c + 1, j, hj => by
    obtain ⟨x, hx⟩ := at_of (l := l) (j := j) (by omega)
    obtain ⟨y, hy⟩ := at_of (l := r) (j := j) (by omega)
    rw [drop_at hx, drop_at hy, sameL]
    refine Ev.step (fun k => by rw [keystoneref2_Same.l0, rdT l hx, rdT r hy, tyE_n]) (Ev_pos (by omega) (Ev_pos (by omega) (Ev_pos (by omega) ?_)))
    cases ht : tyE x y with
    | true =>
      refine Ev_neg (by simp) ?_
      rw [show wrap64 ((j : Int) + 1) = ((j + 1 : Nat) : Int) by rw [w64] <;> omega, Bool.true_and]
      exact rsame_l v d m w e n l r hlr hb c (j + 1) (by omega)
    | false => exact Ev_pos rfl (Ev.now _)
theorem rsame_f (ps : List Ty) (v : Bool) (d : Int) (m : ByteArray) (qs : List Ty) (w : Bool) (e : Int) (n : ByteArray) (hb : ps.length ≤ 140737488355328) : Ev (fun k => keystoneref2_Same.f k ps v d m qs w e n) (sameS ps v d m qs w e n) := by
  unfold keystoneref2_Same.f
  have jt : ∀ b, sameS ps v d m qs w e n = false → b = true → Ev (fun k => keystoneref2_Same.j0 k b ps v d m qs w e n) (sameS ps v d m qs w e n) := fun b h hb => by
    subst hb; rw [h]
    refine Ev.step (fun k => by rw [keystoneref2_Same.j0]) ?_
    exact Ev_pos rfl (Ev.now _)
  by_cases h1 : (v != w) = true
  · exact Ev_pos h1 (jt _ (by unfold sameS; cases v <;> cases w <;> simp_all) rfl)
  refine Ev_neg h1 ?_
  by_cases h2 : (!(d == e) || (!(m.toList == n.toList))) = true
  · exact Ev_pos h2 (jt _ (by unfold sameS; rw [← Bool.not_and] at h2; rw [Bool.not_eq_true'] at h2; rw [h2]; simp) rfl)
  refine Ev_neg h2 ?_
  by_cases h3 : ps.length = qs.length
  · have e3 : ((ps.length : Int) != (qs.length : Int)) = false := by rw [h3]; simp
    rw [e3]
    refine Ev.step (fun k => by rw [keystoneref2_Same.j0]) (Ev_neg Bool.false_ne_true ?_)
    have hh := rsame_l v d m w e n ps qs h3 hb ps.length 0 (Nat.zero_add _)
    have e4 : sameS ps v d m qs w e n = sameL ps qs := by
      unfold sameS
      rw [← Bool.not_and, Bool.not_eq_true', Bool.not_eq_false] at h2
      rw [h2, show (v == w) = true by cases v <;> cases w <;> simp_all]
      simp
    rw [e4]
    exact hh
  · exact jt _ (by unfold sameS; rw [sameL_len h3]; simp) (by simp; omega)
end Go.Proofs.YtlajkmnmooilmaaDoor.Pure
