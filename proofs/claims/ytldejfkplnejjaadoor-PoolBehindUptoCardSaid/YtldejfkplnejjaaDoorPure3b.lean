/- Chapter 3, plainly: what an entry says: each call of the pool tells something. -/
import Derived.Test.YtldejfkplnejjaaDoorPure3a
import Derived.Test.YtldejfkplnejjaaDoorP10
import Derived.Test.YtldejfkplnejjaaDoorP13
namespace Go.Proofs.YtldejfkplnejjaaDoor.Pure
open Go.RowKit Go.Proofs.YtldejfkplnejjaaDoor.P Go.Proofs.YtldejfkplnejjaaDoorW.PrintWords
set_option linter.unusedVariables false
theorem exb {α β : Type} {f : Nat → Option α} {g : Nat → α → Option β} {v : α} (h : Ev f v) (h2 : ∃ r, Ev (fun k => g k v) r) : ∃ r, Ev (fun k => (f k).bind (g k)) r := let ⟨r, hr⟩ := h2; ⟨r, Ev.bind h hr⟩
theorem exp {α : Type} {c : Prop} [Decidable c] {f g : Nat → Option α} (h : c) (h2 : ∃ r, Ev f r) : ∃ r, Ev (fun k => if c then f k else g k) r := let ⟨r, hr⟩ := h2; ⟨r, Ev_pos h hr⟩
theorem named_0 {m : Bool} {l : List En} {i : Int} (h : namedS m l i = 0) : ∃ y, kindS l i 1 = some y := by
  unfold namedS at h
  cases hk : kindS l i 1 with
  | none => rw [hk] at h; simp at h
  | some y => exact ⟨y, rfl⟩
theorem typed_0 {l : List En} {i : Int} (h : typedS l i = 0) : ∃ y, kindS l i 1 = some y := by
  unfold typedS at h
  cases hk : kindS l i 1 with
  | none => rw [hk] at h; simp at h
  | some y => exact ⟨y, rfl⟩
theorem signed_0 {l : List En} {i : Int} (h : signedS l i = 0) : ∃ y, kindS l i 1 = some y := by
  unfold signedS at h
  cases hk : kindS l i 1 with
  | none => rw [hk] at h; simp at h
  | some y => exact ⟨y, rfl⟩
theorem wrong_uses {l : List En} {x : En} (h : wrongS l x = 0) : usesS l x = 0 := by
  unfold wrongS at h
  split at h
  · simp at h
  · split at h
    · exact h
    · simp at h
theorem use_class {l : List En} {x : En} (h : wrongS l x = 0) (hk : x.f0 = 3) : ∃ y, kindS l x.f3 1 = some y := by
  have hu := wrong_uses h
  unfold usesS at hu
  rw [if_neg (by omega), if_neg (by omega), if_pos hk] at hu
  exact named_0 hu
theorem use_type {l : List En} {x : En} (h : wrongS l x = 0) (hk : x.f0 = 4) : ∃ y, kindS l x.f3 1 = some y := by
  have hu := wrong_uses h
  unfold usesS at hu
  rw [if_neg (by omega), if_neg (by omega), if_neg (by omega), if_pos hk] at hu
  exact typed_0 hu
theorem use_member {l : List En} {x : En} (h : wrongS l x = 0) (hk : x.f0 = 5 ∨ x.f0 = 6) : (∃ c, kindS l x.f3 3 = some c) ∧ (∃ y, kindS l x.f4 1 = some y) ∧ ∃ z, kindS l x.f5 1 = some z := by
  have hu := wrong_uses h
  unfold usesS at hu
  rw [if_neg (by omega), if_neg (by omega), if_neg (by omega), if_neg (by omega)] at hu
  cases hc : kindS l x.f3 3 with
  | none => rw [hc] at hu; simp at hu
  | some c =>
    rw [hc] at hu
    simp only at hu
    refine ⟨⟨c, rfl⟩, ?_⟩
    by_cases h6 : x.f0 = 6
    · rw [if_pos h6] at hu
      by_cases he : namedS true l x.f4 = 0
      · rw [if_pos he] at hu; exact ⟨named_0 he, signed_0 hu⟩
      · rw [if_neg he] at hu; exact absurd hu he
    · rw [if_neg h6] at hu
      by_cases he : namedS false l x.f4 = 0
      · rw [if_pos he] at hu; exact ⟨named_0 he, typed_0 hu⟩
      · rw [if_neg he] at hu; exact absurd hu he
/-- An entry of a kind with which nothing is wrong, or what is wrong. -/
def rightS (l : List En) (i w : Int) : Option En × Int := match kindS l i w with
  | none => (none, 16)
  | some x => if wrongS l x = 0 then (some x, 0) else (none, wrongS l x)
def rightV : Option En × Int → Int × ByteArray × Int × Int × Int × Int × Int
  | (some x, _) => (x.f0, x.f1, x.f2, x.f3, x.f4, x.f5, 0)
  | (none, e) => (0, ⟨#[]⟩, 0, 0, 0, 0, e)
theorem right_f (l : List En) (hl : Small l) (i w : Int) : Ev (fun k => pool_right.f k l i w) (rightV (rightS l i w)) := by
  unfold pool_right.f rightS
  refine Ev_bindc (kind_f l i w) ?_
  cases h : kindS l i w with
  | none => exact Ev_neg (show ¬ ((16 : Int) = 0) by omega) (Ev.now _)
  | some x =>
    refine Ev_pos rfl (Ev.bind (wrong_f l hl x) ?_)
    simp only
    by_cases hw : wrongS l x = 0
    · have e : (if wrongS l x = 0 then (some x, (0 : Int)) else (none, wrongS l x)) = (some x, 0) := if_pos hw
      rw [e]; exact Ev_pos hw (Ev.now _)
    · have e : (if wrongS l x = 0 then (some x, (0 : Int)) else (none, wrongS l x)) = (none, wrongS l x) := if_neg hw
      rw [e]; exact Ev_neg hw (Ev.now _)
theorem right_cases (l : List En) (i w : Int) : (∃ x, rightS l i w = (some x, 0) ∧ kindS l i w = some x ∧ wrongS l x = 0 ∧ x.f0 = w) ∨ ∃ e, e ≠ 0 ∧ rightS l i w = (none, e) := by
  unfold rightS
  cases h : kindS l i w with
  | none => exact .inr ⟨16, by omega, rfl⟩
  | some x =>
    simp only
    by_cases hw : wrongS l x = 0
    · exact .inl ⟨x, by rw [if_pos hw], rfl, hw, (kindS_in h).2.2.2.2⟩
    · exact .inr ⟨_, hw, by rw [if_neg hw]⟩
theorem number_e (l : List En) (hl : Small l) (i : Int) : ∃ r, Ev (fun k => pool_Number.f k l i) r := ⟨_, Ev.bind (right_f l hl i 2) (Ev.now _)⟩
theorem class_e (l : List En) (hl : Small l) (i : Int) : ∃ r, Ev (fun k => pool_Class.f k l i) r := by
  rcases right_cases l i 3 with ⟨x, hr, hk, hw, h3⟩ | ⟨e, he, hr⟩
  · obtain ⟨y, hy⟩ := use_class hw h3
    have hi := kindS_in hy
    refine exb (right_f l hl i 3) ?_
    rw [hr]
    exact ⟨_, Ev_pos rfl (Ev_pos hi.2.1 (Ev_pos hi.2.2.1 (Ev.now _)))⟩
  · refine exb (right_f l hl i 3) ?_
    rw [hr]
    exact ⟨_, Ev_neg he (Ev.now _)⟩
theorem ptype_e (l : List En) (hl : Small l) (i : Int) : ∃ r, Ev (fun k => pool_Type.f k l i) r := by
  rcases right_cases l i 4 with ⟨x, hr, hk, hw, h3⟩ | ⟨e, he, hr⟩
  · obtain ⟨y, hy⟩ := use_type hw h3
    have hi := kindS_in hy
    have hs := hl y hi.1
    have hrd := rdE hi.2.1 hi.2.2.2.1
    refine exb (right_f l hl i 4) ?_
    rw [hr]
    refine exp rfl (exp hi.2.1 (exp hi.2.2.1 ?_))
    simp only [rightV]
    rw [hrd]
    exact ⟨_, Ev.bind (type_f y.f1 (by omega)) (Ev.now _)⟩
  · refine exb (right_f l hl i 4) ?_
    rw [hr]
    exact ⟨_, Ev_neg he (Ev.now _)⟩
theorem field_e (l : List En) (hl : Small l) (i : Int) : ∃ r, Ev (fun k => pool_Field.f k l i) r := by
  rcases right_cases l i 5 with ⟨x, hr, hk, hw, h3⟩ | ⟨e, he, hr⟩
  · obtain ⟨_, ⟨y, hy⟩, z, hz⟩ := use_member hw (.inl h3)
    have hi := kindS_in hy
    have hj := kindS_in hz
    have hs := hl z hj.1
    have hrd := rdE hj.2.1 hj.2.2.2.1
    obtain ⟨c, hc⟩ := class_e l hl x.f3
    by_cases h0 : c.2 = 0
    · refine exb (right_f l hl i 5) ?_
      rw [hr]
      refine exp rfl (exb hc (exp h0 (exp hj.2.1 (exp hj.2.2.1 ?_))))
      simp only [rightV]
      rw [hrd]
      exact ⟨_, Ev.bind (type_f z.f1 (by omega)) (Ev_pos hi.2.1 (Ev_pos hi.2.2.1 (Ev.now _)))⟩
    · refine exb (right_f l hl i 5) ?_
      rw [hr]
      exact ⟨_, Ev_pos rfl (Ev.bind hc (Ev_neg h0 (Ev.now _)))⟩
  · refine exb (right_f l hl i 5) ?_
    rw [hr]
    exact ⟨_, Ev_neg he (Ev.now _)⟩
theorem method_e (l : List En) (hl : Small l) (i : Int) : ∃ r, Ev (fun k => pool_Method.f k l i) r := by
  rcases right_cases l i 6 with ⟨x, hr, hk, hw, h3⟩ | ⟨e, he, hr⟩
  · obtain ⟨_, ⟨y, hy⟩, z, hz⟩ := use_member hw (.inr h3)
    have hi := kindS_in hy
    have hj := kindS_in hz
    have hs := hl z hj.1
    have hrd := rdE hj.2.1 hj.2.2.2.1
    obtain ⟨c, hc⟩ := class_e l hl x.f3
    by_cases h0 : c.2 = 0
    · refine exb (right_f l hl i 6) ?_
      rw [hr]
      refine exp rfl (exb hc (exp h0 (exp hj.2.1 (exp hj.2.2.1 ?_))))
      simp only [rightV]
      rw [hrd]
      exact ⟨_, Ev.bind (dsig_f z.f1 (by omega)) (Ev_pos hi.2.1 (Ev_pos hi.2.2.1 (Ev.now _)))⟩
    · refine exb (right_f l hl i 6) ?_
      rw [hr]
      exact ⟨_, Ev_pos rfl (Ev.bind hc (Ev_neg h0 (Ev.now _)))⟩
  · refine exb (right_f l hl i 6) ?_
    rw [hr]
    exact ⟨_, Ev_neg he (Ev.now _)⟩
end Go.Proofs.YtldejfkplnejjaaDoor.Pure
