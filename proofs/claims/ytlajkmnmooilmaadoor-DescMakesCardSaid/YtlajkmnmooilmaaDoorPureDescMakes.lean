/- DescMakes, plainly. -/
import Derived.Test.YtlajkmnmooilmaaDoorPure2m
import Derived.Test.YtlajkmnmooilmaaDoorPure2r
import Derived.Test.YtlajkmnmooilmaaDoorPureKnown2
import Derived.Test.YtlajkmnmooilmaaDoorP23
import Derived.Test.YtlajkmnmooilmaaDoorP24
import Derived.Test.YtlajkmnmooilmaaDoorP25
namespace Go.Proofs.YtlajkmnmooilmaaDoor.Pure
open Go.RowKit Go.Proofs.YtlajkmnmooilmaaDoor.P Go.Proofs.YtlajkmnmooilmaaDoorW.PrintWords
set_option linter.unusedVariables false
theorem rcls_l1 (x0 : List Ty) (out : List ByteArray) (i : Nat) (t : Ty) (ht : x0[i]? = some t) (hb : x0.length ≤ 1000) (ho : out.length ≤ 1000) (R : List ByteArray) : ∀ (c j : Nat) (b : Bool), j + c = out.length →
    Ev (fun k => keystoneref2_Classes.l0 k x0 (if (b || (out.drop j).any (fun x => x.toList == t.f1.toList)) = true then out else out ++ [t.f1]) ((i + 1 : Nat) : Int)) R → Ev (fun k => keystoneref2_Classes.l1 k x0 out (i : Int) b (j : Int)) R
  | 0, j, b, hj, hR => by
    have hi : i < x0.length := (List.getElem?_eq_some_iff.1 ht).1
    rw [List.drop_of_length_le (by omega), List.any_nil, Bool.or_false] at hR
    have hw : wrap64 ((i : Int) + 1) = ((i + 1 : Nat) : Int) := by rw [w64] <;> omega
    refine Ev.step (fun k => by rw [keystoneref2_Classes.l1, hw, rdT x0 ht]) (Ev_neg (by omega) ?_)
    cases b with
    | true => exact Ev_pos rfl (by simpa using hR)
    | false => exact Ev_neg Bool.false_ne_true (Ev_pos (by omega) (Ev_pos (by omega) (Ev_pos (by omega) (by simpa using hR))))
  | c + 1, j, b, hj, hR => by
    have hi : i < x0.length := (List.getElem?_eq_some_iff.1 ht).1
    obtain ⟨x, hx⟩ := at_of (l := out) (j := j) (by omega)
    rw [drop_at hx, List.any_cons] at hR
    have hw : wrap64 ((j : Int) + 1) = ((j + 1 : Nat) : Int) := by rw [w64] <;> omega
    refine Ev.step (fun k => by rw [keystoneref2_Classes.l1, hw, rdT x0 ht, rdO hx]) (Ev_pos (by omega) ?_)
    cases b with
    | true => exact Ev_pos rfl (rcls_l1 x0 out i t ht hb ho R c (j + 1) true (by omega) (by simpa using hR))
    | false => exact Ev_neg Bool.false_ne_true (Ev_pos (by omega) (Ev_pos (by omega) (Ev_pos (by omega) (rcls_l1 x0 out i t ht hb ho R c (j + 1) _ (by omega) (by rw [Bool.false_or] at hR; exact hR)))))
theorem rcls_l0 (x0 : List Ty) (hb : x0.length ≤ 500) : ∀ (c i : Nat) (out : List ByteArray), i + c = x0.length → out.length ≤ i → Ev (fun k => keystoneref2_Classes.l0 k x0 out (i : Int)) ((x0.drop i).foldl clsStep out)
  | 0, i, out, hi, ho => by
    rw [List.drop_of_length_le (by omega)]
    refine Ev.step (fun k => by rw [keystoneref2_Classes.l0]) ?_
    exact Ev_neg (by omega) (Ev.now _)
  | c + 1, i, out, hi, ho => by
    obtain ⟨t, ht⟩ := at_of (l := x0) (j := i) (by omega)
    rw [drop_at ht, List.foldl_cons]
    refine Ev.step (fun k => by rw [keystoneref2_Classes.l0, rdT x0 ht]) (Ev_pos (by omega) (Ev_pos (by omega) ?_))
    refine rcls_l1 x0 out i t ht (by omega) (by omega) _ out.length 0 _ (Nat.zero_add _) ?_
    have e : (if (t.f1.toList == ([] : List UInt8) || (out.drop 0).any (fun x => x.toList == t.f1.toList)) = true then out else out ++ [t.f1]) = clsStep out t := by
      unfold clsStep clsHas
      rw [List.drop_zero]
      by_cases h1 : t.f1.toList = [] <;> by_cases h2 : out.any (fun x => x.toList == t.f1.toList) = true <;> simp [h1, h2]
    rw [e]
    have hl : (clsStep out t).length ≤ i + 1 := by
      unfold clsStep
      split
      · omega
      · simp; omega
    exact rcls_l0 x0 hb c (i + 1) _ (by omega) hl
theorem rcls_f (l : List Ty) (h : l.length ≤ 500) : Ev (fun k => keystoneref2_Classes.f k l) (clsF l) := by
  have := rcls_l0 l h l.length 0 [] (Nat.zero_add _) (Nat.le_refl _)
  rw [List.drop_zero] at this
  exact this
theorem rmake_f (v : Bool) (l : List Ty) (h : l.length < 5864062014805) (hz : ∀ t ∈ l, t.f1.size ≤ 140737488355328) : Ev (fun k => keystoneref2_Make.f k v l) (makeS v l) := by
  unfold keystoneref2_Make.f makeS
  have done : ∀ (ps : List Ty) (v : Bool) (d : Int) (m : ByteArray), m.size ≤ 140737488355328 → (∀ t ∈ ps, t.f1.size ≤ 140737488355328) → Ev (fun k => (keystoneref2_SigText.f k ps v d m).bind fun bt => (if bt.2 = 0 then (some (ps, v, d, m, 0)) else (some (([] : List Ty), false, 0, (⟨#[]⟩ : ByteArray), bt.2)))) (mkS ps v d m) := fun ps v d m hm hp => by
    refine Ev.bind (rsigt_f ps v d m hm hp) ?_
    unfold mkS
    by_cases he : (sigT ps v d m).2 = 0
    · rw [if_pos he, if_pos he]; exact Ev.now _
    · rw [if_neg he, if_neg he]; exact Ev.now _
  cases v with
  | true =>
    refine Ev_pos rfl (Ev_pos (by omega) (Ev_pos (by omega) (Ev_bindc rfl (Ev_pos ?_ (Ev_bindc rfl ?_)))))
    · simp only [Int.toNat_natCast, List.take_length, List.length_nil]; omega
    · simp only [Int.toNat_natCast, List.take_length, List.nil_append]
      exact done l true 0 ⟨#[]⟩ (by decide) hz
  | false =>
    refine Ev_neg Bool.false_ne_true ?_
    rw [if_neg Bool.false_ne_true]
    by_cases h0 : l.length = 0
    · have e : l = [] := List.length_eq_zero_iff.1 h0
      subst e
      exact Ev_pos rfl (Ev.now _)
    · have hw : wrap64 ((l.length : Int) - 1) = ((l.length - 1 : Nat) : Int) := by rw [w64] <;> omega
      obtain ⟨t, ht⟩ := at_of (l := l) (j := l.length - 1) (by omega)
      have hl : l.getLast? = some t := by rw [List.getLast?_eq_getElem?, ht]
      rw [hw, rdT l ht, hl]
      have hin : t ∈ l := List.mem_of_getElem? ht
      refine Ev_neg (by omega) (Ev_pos (by omega) (Ev_pos (by omega) (Ev_pos (by omega) (Ev_bindc rfl (Ev_pos ?_ (Ev_bindc rfl ?_))))))
      · simp only [Int.toNat_natCast, List.length_nil, List.length_take]; omega
      · simp only [Int.toNat_natCast, List.nil_append]
        rw [← List.dropLast_eq_take]
        exact done _ _ _ _ (hz t hin) (fun x hx => hz x (List.dropLast_subset l hx))
theorem makes_l1 (l : List Ty) (hl : l.length ≤ 1000) : ∀ (c j : Nat), j + c = l.length → Ev (fun k => keystonelaw2_DescMakes.l1 k l l (j : Int)) true
  | 0, j, hj => by
    refine Ev.step (fun k => by rw [keystonelaw2_DescMakes.l1]) ?_
    exact Ev_neg (by omega) (Ev.now _)
  | c + 1, j, hj => by
    refine Ev.step (fun k => by rw [keystonelaw2_DescMakes.l1]) (Ev_pos (by omega) (Ev_pos (by omega) (Ev_pos (by omega) (Ev_neg (by simp) ?_))))
    rw [show wrap64 ((j : Int) + 1) = ((j + 1 : Nat) : Int) by rw [w64] <;> omega]
    exact makes_l1 l hl c (j + 1) (by omega)
theorem makes_l0 (l : List Ty) (hl : l.length ≤ 1000) (o : List ByteArray) (ho : o.length ≤ 1000) : ∀ (c j : Nat), j + c = o.length → Ev (fun k => keystonelaw2_DescMakes.l0 k l l o o (j : Int)) true
  | 0, j, hj => by
    refine Ev.step (fun k => by rw [keystonelaw2_DescMakes.l0]) (Ev_neg (by omega) ?_)
    exact makes_l1 l hl l.length 0 (Nat.zero_add _)
  | c + 1, j, hj => by
    refine Ev.step (fun k => by rw [keystonelaw2_DescMakes.l0]) (Ev_pos (by omega) (Ev_pos (by omega) (Ev_pos (by omega) (Ev_pos rfl ?_))))
    rw [show wrap64 ((j : Int) + 1) = ((j + 1 : Nat) : Int) by rw [w64] <;> omega]
    exact makes_l0 l hl o ho c (j + 1) (by omega)
theorem DescMakes (a0 : Bool) (l1 : List Ty) (_ : True) (h1 : (∀ x_ ∈ l1, ok26 x_) ∧ l1.length ≤ maxLen ∧ l1.length * 24 ≤ 140737488351232) : ∃ k, keystonelaw2_DescMakes.f k a0 l1 = some true := by
  refine Ev.rounds ?_
  have hz : ∀ t ∈ l1, t.f1.size ≤ 140737488355328 := fun t ht => by have := (h1.1 t ht).2; omega
  unfold keystonelaw2_DescMakes.f
  refine Ev.bind known2_t (Ev_pos rfl ?_)
  by_cases hl : ((l1.length : Int) > 100)
  · exact Ev_pos hl (Ev.now _)
  · have hm : (makeS a0 l1).1.length ≤ 100 := by
      unfold makeS mkS
      split
      · split
        · simp only; omega
        · simp
      · split
        · simp
        · split
          · simp only [List.length_dropLast]; omega
          · simp
    have hc : (clsF l1).length ≤ 100 := by
      have := cls_len l1 []
      unfold clsF
      simp only [List.length_nil] at this
      omega
    have hs := rsame_f (makeS a0 l1).1 (makeS a0 l1).2.1 (makeS a0 l1).2.2.1 (makeS a0 l1).2.2.2.1 (makeS a0 l1).1 (makeS a0 l1).2.1 (makeS a0 l1).2.2.1 (makeS a0 l1).2.2.2.1 (by omega)
    rw [sameS_refl] at hs
    refine Ev_neg hl (Ev_bindc rfl (Ev_pos (by show ([] : List Ty).length + l1.length < _; simp; omega) (Ev_bindc rfl ?_)))
    simp only [List.nil_append]
    refine Ev.bind (dmake_f a0 l1 (by omega) hz) (Ev.bind (rmake_f a0 l1 (by omega) hz) (Ev_bindc (dcls_f l1 (by omega) hz) (Ev.bind (rcls_f l1 (by omega)) (Ev.bind hs (Ev_pos rfl (Ev_pos rfl ?_))))))
    rw [show (((clsF l1).length : Int) != ((clsF l1).length : Int)) = false by simp]
    refine Ev.step (fun k => by rw [keystonelaw2_DescMakes.j0]) (Ev_neg Bool.false_ne_true ?_)
    exact makes_l0 l1 (by omega) _ (by omega) _ 0 (Nat.zero_add _)
end Go.Proofs.YtlajkmnmooilmaaDoor.Pure
