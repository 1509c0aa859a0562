/- DescParts, plainly. -/
import Derived.Test.YtlajkmnmooilmaaDoorPure2n
import Derived.Test.YtlajkmnmooilmaaDoorPureKnown2
import Derived.Test.YtlajkmnmooilmaaDoorP15
namespace Go.Proofs.YtlajkmnmooilmaaDoor.Pure
open Go.RowKit Go.Proofs.YtlajkmnmooilmaaDoor.P Go.Proofs.YtlajkmnmooilmaaDoorW.PrintWords
set_option linter.unusedVariables false
theorem parts_l2 (t : ByteArray) (o : List ByteArray) (ho : clsP o) (hlen : o.length ≤ 1000) (ps : List Ty) (v : Bool) (d : Int) (m : ByteArray) (i : Nat) (hi : i < o.length) (R : Bool) (hR : Ev (fun k => keystonelaw2_DescParts.l1 k t t o ((i + 1 : Nat) : Int) ps v d m) R) : ∀ (c j : Nat), j + c = i → Ev (fun k => keystonelaw2_DescParts.l2 k t t o (i : Int) (j : Int) ps v d m) R
  | 0, j, hj => by
    obtain ⟨x, hx⟩ := at_of (l := o) (j := i) hi
    have hn : nm x = true := ho.1 x (List.mem_of_getElem? hx)
    have hs : x.size ≤ 140737488355328 := by
      have h := hn
      unfold nm nmL at h
      simp only [Bool.and_eq_true, decide_eq_true_eq] at h
      have := LL_length x
      omega
    have hd := dname_f x hs
    rw [hn] at hd
    have hw : wrap64 ((i : Int) + 1) = ((i + 1 : Nat) : Int) := by rw [w64] <;> omega
    refine Ev.step (fun k => by rw [keystonelaw2_DescParts.l2, rdO hx, hw]) (Ev_neg (by omega) (Ev_pos (by omega) (Ev_pos (by omega) (Ev.bind hd ?_))))
    exact Ev_pos rfl hR
  | c + 1, j, hj => by
    obtain ⟨x, hx⟩ := at_of (l := o) (j := i) hi
    obtain ⟨y, hy⟩ := at_of (l := o) (j := j) (by omega)
    have hne : y.toList ≠ x.toList := by
      have h := List.pairwise_iff_getElem.1 ho.2 j i (by omega) hi (by omega)
      obtain ⟨_, e1⟩ := List.getElem?_eq_some_iff.1 hx
      obtain ⟨_, e2⟩ := List.getElem?_eq_some_iff.1 hy
      rw [e1, e2] at h
      exact h
    have hw : wrap64 ((j : Int) + 1) = ((j + 1 : Nat) : Int) := by rw [w64] <;> omega
    refine Ev.step (fun k => by rw [keystonelaw2_DescParts.l2, rdO hx, rdO hy, hw]) (Ev_pos (by omega) (Ev_pos (by omega) (Ev_pos (by omega) (Ev_pos (by omega) (Ev_pos (by omega) (Ev_neg (c := x.toList = y.toList) (fun e => hne e.symm) ?_))))))
    exact parts_l2 t o ho hlen ps v d m i hi R hR c (j + 1) (by omega)
theorem parts_l1 (t : ByteArray) (o : List ByteArray) (ho : clsP o) (ps : List Ty) (v : Bool) (d : Int) (m : ByteArray) (hlen : o.length ≤ ps.length + 1) (hps : ps.length ≤ 100) : ∀ (c i : Nat), i + c = o.length → Ev (fun k => keystonelaw2_DescParts.l1 k t t o (i : Int) ps v d m) true
  | 0, i, hi => by
    have hw : wrap64 ((ps.length : Int) + 1) = ((ps.length + 1 : Nat) : Int) := by rw [w64] <;> omega
    refine Ev.step (fun k => by rw [keystonelaw2_DescParts.l1, hw]) (Ev_neg (by omega) (Ev_pos rfl (Ev_const ?_)))
    rw [decide_eq_true (by omega)]
  | c + 1, i, hi => by
    refine Ev.step (fun k => by rw [keystonelaw2_DescParts.l1]) (Ev_pos (by omega) ?_)
    exact parts_l2 t o ho (by omega) ps v d m i (by omega) true (parts_l1 t o ho ps v d m hlen hps c (i + 1) (by omega)) i 0 (Nat.zero_add _)
theorem parE_in : ∀ {l : List Ty}, parE l = 0 → ∀ t ∈ l, chk t.f0 t.f1 = 0
  | [], _, t, ht => by cases ht
  | x :: l, h, t, ht => by
    unfold parE at h
    split at h
    · rename_i hc
      rcases List.mem_cons.1 ht with rfl | ht
      · exact hc
      · exact parE_in h t ht
    · rename_i hc; exact absurd h hc
theorem parts_j1 (t : ByteArray) (ps : List Ty) (v : Bool) (d : Int) (m : ByteArray) (hp : parE ps = 0) (h16 : ps.length ≤ 16) (hm : m.toList = [] ∨ nm m = true) (hms : m.size ≤ 140737488355328) (hz : ∀ t ∈ ps, t.f1.size ≤ 140737488355328) : Ev (fun k => keystonelaw2_DescParts.j1 k t t ps v d m) true := by
  have hok := clsF_ok (ps ++ [⟨d, m⟩]) (fun x hx => by
    rcases List.mem_append.1 hx with hx | hx
    · exact (chk_0 (parE_in hp x hx)).2.2.2
    · rw [List.mem_singleton.1 hx]; exact hm)
  refine Ev.step (fun k => by rw [keystonelaw2_DescParts.j1]) ?_
  refine Ev_bindc rfl (Ev_pos (by show ([] : List Ty).length + ps.length < _; simp; omega) (Ev_bindc rfl (Ev_bindc rfl ?_)))
  simp only [List.nil_append]
  refine Ev_pos (by simp; omega) (Ev_bindc (dcls_f _ (by simp; omega) (fun x hx => ?_)) ?_)
  · rcases List.mem_append.1 hx with hx | hx
    · exact hz x hx
    · rw [List.mem_singleton.1 hx]; exact hms
  · exact parts_l1 t _ hok.1 ps v d m (by have := hok.2; simpa using this) (by omega) _ 0 (Nat.zero_add _)
theorem parts_l0 (v : Bool) (d : Int) (m : ByteArray) (hm : m.size ≤ 140737488355328) (ps : List Ty) (hz : ∀ t ∈ ps, t.f1.size ≤ 140737488355328) (h16 : ps.length ≤ 16) (hp : parE ps = 0) (he : (sigT ps v d m).2 = 0) : ∀ (c : Nat) (a b : List Ty), b.length = c → ps = a ++ b →
    Ev (fun k => keystonelaw2_DescParts.l0 k (sigT ps v d m).1 (BA (40 :: parT a)) (a.length : Int) ps v d m) true
  | 0, a, b, hc, hab => by
    have hb : b = [] := List.length_eq_zero_iff.1 hc
    subst hb
    rw [List.append_nil] at hab
    subst hab
    have hpl := parT_len ps hp
    have s1 : (BA (40 :: parT ps)).size ≤ 1000 := by rw [BA_size, List.length_cons]; omega
    have s2 : (BA (40 :: parT ps) ++ (⟨#[41]⟩ : ByteArray)).size ≤ 1001 := by rw [ByteArray.size_append]; exact Nat.add_le_add s1 (Nat.le_refl 1)
    refine Ev.step (fun k => by rw [keystonelaw2_DescParts.l0]) (Ev_neg (by omega) (Ev_pos (by omega) ?_))
    cases v with
    | true =>
      have h0 : d = 0 ∧ LL m = [] := Classical.byContradiction fun h' => by rw [sigT_t1 h16 hp h'] at he; exact absurd he (by simp)
      have e : (BA (40 :: parT ps) ++ (⟨#[41]⟩ : ByteArray)) ++ (⟨#[86]⟩ : ByteArray) = BA (40 :: parT ps ++ [41, 86]) := by rw [show (⟨#[86]⟩ : ByteArray) = BA [86] from rfl, put41]
      rw [sigT_t0 h16 hp h0]
      refine Ev_pos rfl (Ev_pos (by omega) ?_)
      rw [e]
      exact parts_j1 _ ps true d m hp h16 (.inl (by rw [toList_LL]; exact h0.2)) hm hz
    | false =>
      have hc : chk d m = 0 := Classical.byContradiction fun h' => by rw [sigT_f1 h16 hp h'] at he; exact h' he
      have := textL_len _ _ hc
      rw [sigT_f0 h16 hp hc]
      refine Ev_neg Bool.false_ne_true (Ev.bind (dtext_f _ _ hm) ?_)
      rw [textS_0 hc]
      refine Ev_pos rfl (Ev_pos (by simp only [BA_size] at *; omega) ?_)
      simp only
      rw [put41]
      exact parts_j1 _ ps false d m hp h16 (chk_0 hc).2.2.2 hm hz
  | c + 1, a, [], hc, hab => by simp at hc
  | c + 1, a, t :: b, hc, hab => by
    have hlen : ps.length = a.length + (b.length + 1) := by rw [hab]; simp
    have hat : ps[a.length]? = some t := by rw [hab]; simp
    have hin : t ∈ ps := by rw [hab]; simp
    have hpa : parE a = 0 := by
      have : ∀ (x y : List Ty), parE (x ++ y) = 0 → parE x = 0 := by
        intro x y
        induction x with
        | nil => intro _; rfl
        | cons z x ih =>
          intro h
          rw [List.cons_append, parE] at h
          split at h
          · rename_i hz; rw [parE, if_pos hz]; exact ih h
          · rename_i hz; exact absurd h hz
      exact this a (t :: b) (by rw [← hab]; exact hp)
    have hpl := parT_len a hpa
    have hw : wrap64 ((a.length : Int) + 1) = ((a ++ [t]).length : Int) := by rw [w64 (by omega) (by omega)]; simp
    have hk : chk t.f0 t.f1 = 0 := parE_in hp t hin
    have := textL_len _ _ hk
    refine Ev.step (fun k => by rw [keystonelaw2_DescParts.l0, rdT ps hat, hw]) (Ev_pos (by omega) (Ev_pos (by omega) (Ev.bind (dtext_f _ _ (hz t hin)) ?_)))
    rw [textS_0 hk]
    refine Ev_pos rfl (Ev_pos (by simp only [BA_size, List.length_cons]; omega) ?_)
    have ih := parts_l0 v d m hm ps hz h16 hp he c (a ++ [t]) b (by simpa using hc) (by rw [hab]; simp)
    rw [parT_append, show parT [t] = textL t.f0.toNat (LL t.f1) by simp [parT]] at ih
    rw [BA_append]
    exact ih
theorem sigT_bad (ps : List Ty) (v : Bool) (d : Int) (m : ByteArray) (h : (sigT ps v d m).2 ≠ 0) : (sigT ps v d m).1 = ⟨#[]⟩ := by
  unfold sigT at h ⊢
  split
  · rfl
  · rename_i h1
    rw [if_neg h1] at h
    split
    · rename_i h2
      rw [if_pos h2] at h
      split
      · rename_i h3
        rw [if_pos h3] at h
        split
        · rename_i h4; rw [if_pos h4] at h; exact absurd rfl h
        · rfl
      · rename_i h3
        rw [if_neg h3] at h
        split
        · rename_i h4; rw [if_pos h4] at h; exact absurd rfl h
        · rfl
    · rfl
theorem DescParts (a0 : S32) (h0 : ok32 a0) : ∃ k, keystonelaw2_DescParts.f k a0.f0 a0.f1 a0.f2.f0 a0.f2.f1 = some true := by
  refine Ev.rounds ?_
  obtain ⟨i1, i2⟩ := ok_in h0
  unfold keystonelaw2_DescParts.f
  refine Ev.bind known2_t (Ev_pos rfl (Ev_bindc (few_f _ _ _ _) ?_))
  by_cases hf : ((a0.f0.length : Int) < 100)
  · refine Ev_pos (by simpa using hf) (Ev.bind (dsigt_f a0.f0 a0.f1 a0.f2.f0 a0.f2.f1 i2 i1) ?_)
    by_cases he : (sigT a0.f0 a0.f1 a0.f2.f0 a0.f2.f1).2 = 0
    · have h16 : a0.f0.length ≤ 16 := Nat.not_lt.1 fun h' => by rw [sigT_16 h'] at he; exact absurd he (by simp)
      have hp : parE a0.f0 = 0 := Classical.byContradiction fun h' => by rw [sigT_e h16 h'] at he; exact h' he
      exact Ev_pos he (parts_l0 a0.f1 a0.f2.f0 a0.f2.f1 i2 a0.f0 i1 h16 hp he _ [] a0.f0 rfl rfl)
    · refine Ev_neg he (Ev_const ?_)
      rw [sigT_bad _ _ _ _ he, toList_LL]
      rfl
  · exact Ev_neg (by simpa using hf) (Ev.now _)
end Go.Proofs.YtlajkmnmooilmaaDoor.Pure
