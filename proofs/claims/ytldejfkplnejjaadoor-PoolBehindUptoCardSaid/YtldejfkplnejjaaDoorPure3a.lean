/- Chapter 3, plainly: what the program's pool tells of entries. -/
import Derived.Test.YtldejfkplnejjaaDoorPure3d
import Derived.Test.YtldejfkplnejjaaDoorExtUses
import Derived.Test.YtldejfkplnejjaaDoorP3
import Derived.Test.YtldejfkplnejjaaDoorP4
import Derived.Test.YtldejfkplnejjaaDoorP5
namespace Go.Proofs.YtldejfkplnejjaaDoor.Pure
open Go.RowKit Go.Proofs.YtldejfkplnejjaaDoor.P Go.Proofs.YtldejfkplnejjaaDoorW.PrintWords
set_option linter.unusedVariables false
abbrev En := S50
/-- The entry of a number, if it is of that kind. -/
def kindS (l : List En) (i w : Int) : Option En := if 0 ≤ i then (match l[i.toNat]? with | some x => if x.f0 = w then some x else none | none => none) else none
def kindV : Option En → Int × ByteArray × Int × Int × Int × Int × Int
  | some x => (x.f0, x.f1, x.f2, x.f3, x.f4, x.f5, 0)
  | none => (0, ⟨#[]⟩, 0, 0, 0, 0, 16)
theorem rdE {l : List En} {i : Int} {x : En} (h0 : 0 ≤ i) (h : l[i.toNat]? = some x) : rd_T50 l i = x := by
  have : i = ((i.toNat : Nat) : Int) := by omega
  exact getD_at this h
theorem kindS_in {l : List En} {i w : Int} {x : En} (h : kindS l i w = some x) : x ∈ l ∧ 0 ≤ i ∧ i < l.length ∧ l[i.toNat]? = some x ∧ x.f0 = w := by
  unfold kindS at h
  split at h
  · rename_i h0
    split at h
    · rename_i y hy
      split at h
      · rename_i hw
        obtain rfl := Option.some.inj h
        exact ⟨List.mem_of_getElem? hy, h0, by have := (List.getElem?_eq_some_iff.1 hy).1; omega, hy, hw⟩
      · cases h
    · cases h
  · cases h
theorem kind_f (l : List En) (i w : Int) : pool_kind.f l i w = some (kindV (kindS l i w)) := by
  unfold pool_kind.f
  by_cases h0 : i < 0
  · rw [if_pos h0]; unfold kindS; rw [if_neg (by omega)]; rfl
  rw [if_neg h0]
  by_cases h1 : i ≥ (l.length : Int)
  · rw [if_pos h1]; unfold kindS; rw [if_pos (by omega), List.getElem?_eq_none (by omega)]; rfl
  have hp0 : 0 ≤ i := by omega
  rw [if_neg h1, if_pos hp0, if_pos (show i < (l.length : Int) by omega)]
  obtain ⟨x, hx⟩ := at_of (l := l) (j := i.toNat) (by omega)
  rw [rdE hp0 hx]
  have hk : kindS l i w = if x.f0 = w then some x else none := by
    unfold kindS
    rw [if_pos hp0, hx]
  rw [hk]
  by_cases hw : x.f0 = w
  · rw [if_pos hw, if_pos hw]; rfl
  · rw [if_neg hw, if_neg hw]; rfl
def Small (l : List En) : Prop := ∀ x ∈ l, x.f1.size ≤ 1000000000
def namedS (m : Bool) (l : List En) (i : Int) : Int := match kindS l i 1 with
  | none => 16
  | some x => if (if m = true then mth x.f1 else nm x.f1) = true then 0 else 14
def typedS (l : List En) (i : Int) : Int := match kindS l i 1 with
  | none => 16
  | some x => (typeL (LL x.f1)).2.2
def signedS (l : List En) (i : Int) : Int := match kindS l i 1 with
  | none => 16
  | some x => (sigS (LL x.f1)).2.2.2.2
theorem named_f (m : Bool) (l : List En) (hl : Small l) (i : Int) : Ev (fun k => pool_named.f k m l i) (namedS m l i) := by
  unfold pool_named.f namedS
  refine Ev_bindc (kind_f l i 1) ?_
  cases h : kindS l i 1 with
  | none => exact Ev_neg (show ¬ ((16 : Int) = 0) by omega) (Ev.now _)
  | some x =>
    have hs := hl x (kindS_in h).1
    refine Ev_pos rfl ?_
    cases m with
    | true => exact Ev.bind (dmethod_f x.f1 (by omega)) (Ev.now _)
    | false => exact Ev.bind (dname_f x.f1 (by omega)) (Ev.now _)
theorem typed_f (l : List En) (hl : Small l) (i : Int) : Ev (fun k => pool_typed.f k l i) (typedS l i) := by
  unfold pool_typed.f typedS
  refine Ev_bindc (kind_f l i 1) ?_
  cases h : kindS l i 1 with
  | none => exact Ev_neg (show ¬ ((16 : Int) = 0) by omega) (Ev.now _)
  | some x =>
    have hs := hl x (kindS_in h).1
    exact Ev_pos rfl (Ev.bind (type_f x.f1 (by omega)) (Ev.now _))
theorem signed_f (l : List En) (hl : Small l) (i : Int) : Ev (fun k => pool_signed.f k l i) (signedS l i) := by
  unfold pool_signed.f signedS
  refine Ev_bindc (kind_f l i 1) ?_
  cases h : kindS l i 1 with
  | none => exact Ev_neg (show ¬ ((16 : Int) = 0) by omega) (Ev.now _)
  | some x =>
    have hs := hl x (kindS_in h).1
    exact Ev_pos rfl (Ev.bind (dsig_f x.f1 (by omega)) (Ev.now _))
def usesS (l : List En) (x : En) : Int :=
  if x.f0 = 1 then (if (x.f1.size : Int) > 255 then 5 else 0) else if x.f0 = 2 then 0 else if x.f0 = 3 then namedS false l x.f3 else if x.f0 = 4 then typedS l x.f3
  else match kindS l x.f3 3 with
    | none => 16
    | some _ => if x.f0 = 6 then (if namedS true l x.f4 = 0 then signedS l x.f5 else namedS true l x.f4) else (if namedS false l x.f4 = 0 then typedS l x.f5 else namedS false l x.f4)
theorem uses_f (l : List En) (hl : Small l) (x : En) : Ev (fun k => pool_uses.f k l x.f0 x.f1 x.f2 x.f3 x.f4 x.f5) (usesS l x) := by
  unfold pool_uses.f usesS
  by_cases h1 : x.f0 = 1
  · rw [if_pos h1]
    refine Ev_pos h1 ?_
    by_cases h : (x.f1.size : Int) > 255
    · refine Ev_pos h ?_; rw [if_pos h]; exact Ev.now _
    · refine Ev_neg h ?_; rw [if_neg h]; exact Ev.now _
  rw [if_neg h1]
  refine Ev_neg h1 ?_
  by_cases h2 : x.f0 = 2
  · rw [if_pos h2]; exact Ev_pos h2 (Ev.now _)
  rw [if_neg h2]
  refine Ev_neg h2 ?_
  by_cases h3 : x.f0 = 3
  · rw [if_pos h3]; exact Ev_pos h3 (named_f false l hl _)
  rw [if_neg h3]
  refine Ev_neg h3 ?_
  by_cases h4 : x.f0 = 4
  · rw [if_pos h4]; exact Ev_pos h4 (typed_f l hl _)
  rw [if_neg h4]
  refine Ev_neg h4 (Ev_bindc (kind_f l x.f3 3) ?_)
  cases h : kindS l x.f3 3 with
  | none => exact Ev_neg (show ¬ ((16 : Int) = 0) by omega) (Ev.now _)
  | some y =>
    refine Ev_pos rfl ?_
    simp only
    by_cases h6 : x.f0 = 6
    · rw [if_pos h6]
      refine Ev_pos h6 (Ev.bind (named_f true l hl _) ?_)
      by_cases he : namedS true l x.f4 = 0
      · rw [if_pos he]; exact Ev_pos he (signed_f l hl _)
      · rw [if_neg he]; exact Ev_neg he (Ev.now _)
    · rw [if_neg h6]
      refine Ev_neg h6 (Ev.bind (named_f false l hl _) ?_)
      by_cases he : namedS false l x.f4 = 0
      · rw [if_pos he]; exact Ev_pos he (typed_f l hl _)
      · rw [if_neg he]; exact Ev_neg he (Ev.now _)
/-- Is nothing in an entry but what its kind has? -/
def clean (x : En) : Prop := (x.f0 ≠ 1 → LL x.f1 = []) ∧ (x.f0 ≠ 2 → x.f2 = 0) ∧ (x.f0 = 1 ∨ x.f0 = 2 → x.f3 = 0) ∧ (x.f0 ≠ 5 ∧ x.f0 ≠ 6 → x.f4 = 0 ∧ x.f5 = 0)
instance (x : En) : Decidable (clean x) := by unfold clean; exact inferInstance
def wrongS (l : List En) (x : En) : Int := if x.f0 < 1 ∨ 6 < x.f0 then 3 else if clean x then usesS l x else 1
theorem wrong_f (l : List En) (hl : Small l) (x : En) : Ev (fun k => pool_wrong.f k l x.f0 x.f1 x.f2 x.f3 x.f4 x.f5) (wrongS l x) := by
  have hu : ∀ {f : Nat → Option Int}, (∀ k, f k = (pool_uses.f k l x.f0 x.f1 x.f2 x.f3 x.f4 x.f5).bind fun t => some t) → Ev f (usesS l x) := fun {f} hf => by
    rw [show f = fun k => (pool_uses.f k l x.f0 x.f1 x.f2 x.f3 x.f4 x.f5).bind fun t => some t from funext hf]
    exact Ev.bind (uses_f l hl x) (Ev.now _)
  have go : ∀ (b : Bool), (b = true ↔ ¬ clean x) → 1 ≤ x.f0 → x.f0 ≤ 6 → Ev (fun k => if b = true then (some (1 : Int)) else ((pool_uses.f k l x.f0 x.f1 x.f2 x.f3 x.f4 x.f5).bind fun t => (some t))) (wrongS l x) := fun b hb h0 h1 => by
    unfold wrongS
    rw [if_neg (by omega)]
    by_cases hc : clean x
    · rw [if_pos hc]
      exact Ev_neg (fun h => (hb.1 h) hc) (hu fun _ => rfl)
    · rw [if_neg hc]
      exact Ev_pos (hb.2 hc) (Ev.now _)
  unfold pool_wrong.f
  by_cases h1 : x.f0 = 1
  · refine Ev_pos h1 (go _ ?_ (by omega) (by omega))
    simp [clean, h1]
    omega
  refine Ev_neg h1 ?_
  by_cases h2 : x.f0 = 2
  · refine Ev_pos h2 (go _ ?_ (by omega) (by omega))
    simp [clean, h2, toList_LL]
    constructor <;> intro h <;> grind
  refine Ev_neg h2 ?_
  have j1 : ∀ b : Bool, b = decide (x.f0 = 5 ∨ x.f0 = 6) → x.f0 ≠ 3 → x.f0 ≠ 4 → Ev (fun k => pool_wrong.j1 k l b x.f0 x.f1 x.f2 x.f3 x.f4 x.f5 x.f0 ⟨#[]⟩ 0 0 0 0) (wrongS l x) := fun b hb h3 h4 => by
    refine Ev.step (fun k => by rw [pool_wrong.j1]) ?_
    by_cases h56 : x.f0 = 5 ∨ x.f0 = 6
    · rw [hb, decide_eq_true h56]
      refine Ev_pos rfl (go _ ?_ (by omega) (by omega))
      simp [clean, h1, h2, toList_LL, LL]
      grind
    · rw [hb, decide_eq_false h56]
      refine Ev_neg Bool.false_ne_true ?_
      unfold wrongS
      rw [if_pos (by omega)]
      exact Ev.now _
  have j0 : ∀ b : Bool, b = decide (x.f0 = 3 ∨ x.f0 = 4) → Ev (fun k => pool_wrong.j0 k l x.f0 b x.f0 x.f1 x.f2 x.f3 x.f4 x.f5 x.f0 ⟨#[]⟩ 0 0 0 0) (wrongS l x) := fun b hb => by
    refine Ev.step (fun k => by rw [pool_wrong.j0]) ?_
    by_cases h34 : x.f0 = 3 ∨ x.f0 = 4
    · rw [hb, decide_eq_true h34]
      refine Ev_pos rfl (go _ ?_ (by omega) (by omega))
      simp [clean, h1, h2, toList_LL, LL]
      grind
    · rw [hb, decide_eq_false h34]
      refine Ev_neg Bool.false_ne_true ?_
      by_cases h5 : x.f0 = 5
      · exact Ev_pos h5 (j1 _ (by simp [h5]) (by omega) (by omega))
      · exact Ev_neg h5 (j1 _ (by rw [Bool.eq_iff_iff]; simp [h5]) (by omega) (by omega))
  by_cases h3 : x.f0 = 3
  · exact Ev_pos h3 (j0 _ (by simp [h3]))
  · exact Ev_neg h3 (j0 _ (by rw [Bool.eq_iff_iff]; simp [h3]))
end Go.Proofs.YtldejfkplnejjaaDoor.Pure
