/- Chapter 3, plainly: what each of the six calls tells. -/
import Derived.Test.YtldejfkplnejjaaDoorPure3b
import Derived.Test.YtldejfkplnejjaaDoorPure3p
import Derived.Test.YtldejfkplnejjaaDoorP10
import Derived.Test.YtldejfkplnejjaaDoorP13
namespace Go.Proofs.YtldejfkplnejjaaDoor.Pure
open Go.RowKit Go.Proofs.YtldejfkplnejjaaDoor.P Go.Proofs.YtldejfkplnejjaaDoorW.PrintWords
set_option linter.unusedVariables false
/-- The text of an entry. -/
def txtOf (l : List En) (i : Int) : ByteArray := (rd_T50 l i).f1
abbrev eB : ByteArray := ⟨#[]⟩
def textV (l : List En) (i : Int) : ByteArray × Int := match rightS l i 1 with
  | (some x, _) => (x.f1, 0)
  | (none, e) => (eB, e)
def numberV (l : List En) (i : Int) : Int × Int := match rightS l i 2 with
  | (some x, _) => (x.f2, 0)
  | (none, e) => (0, e)
def classV (l : List En) (i : Int) : ByteArray × Int := match rightS l i 3 with
  | (some x, _) => (txtOf l x.f3, 0)
  | (none, e) => (eB, e)
def ptypeV (l : List En) (i : Int) : Int × ByteArray × Int := match rightS l i 4 with
  | (some x, _) => typeL (LL (txtOf l x.f3))
  | (none, e) => (0, eB, e)
def fieldV (l : List En) (i : Int) : ByteArray × ByteArray × Int × ByteArray × Int := match rightS l i 5 with
  | (some x, _) => if (classV l x.f3).2 = 0 then ((classV l x.f3).1, txtOf l x.f4, typeL (LL (txtOf l x.f5))) else (eB, eB, 0, eB, (classV l x.f3).2)
  | (none, e) => (eB, eB, 0, eB, e)
def methodV (l : List En) (i : Int) : ByteArray × ByteArray × SigV := match rightS l i 6 with
  | (some x, _) => if (classV l x.f3).2 = 0 then ((classV l x.f3).1, txtOf l x.f4, sigS (LL (txtOf l x.f5))) else (eB, eB, [], false, 0, eB, (classV l x.f3).2)
  | (none, e) => (eB, eB, [], false, 0, eB, e)
theorem text_f (l : List En) (hl : Small l) (i : Int) : Ev (fun k => pool_Text.f k l i) (textV l i) := by
  unfold textV
  rcases right_cases l i 1 with ⟨x, hr, hk, hw, h3⟩ | ⟨e, he, hr⟩ <;>
  · refine Ev.bind (right_f l hl i 1) ?_
    rw [hr]
    exact Ev.now _
theorem class_f (l : List En) (hl : Small l) (i : Int) : Ev (fun k => pool_Class.f k l i) (classV l i) := by
  unfold classV
  rcases right_cases l i 3 with ⟨x, hr, hk, hw, h3⟩ | ⟨e, he, hr⟩
  · obtain ⟨y, hy⟩ := use_class hw h3
    have hi := kindS_in hy
    refine Ev.bind (right_f l hl i 3) ?_
    rw [hr]
    exact Ev_pos rfl (Ev_pos hi.2.1 (Ev_pos hi.2.2.1 (Ev.now _)))
  · refine Ev.bind (right_f l hl i 3) ?_
    rw [hr]
    exact Ev_neg he (Ev.now _)
theorem small_txt {l : List En} (hl : Small l) {i : Int} {w : Int} {y : En} (h : kindS l i w = some y) : (txtOf l i).size ≤ 1000000000 := by
  have hi := kindS_in h
  unfold txtOf
  rw [rdE hi.2.1 hi.2.2.2.1]
  exact hl y hi.1
theorem field_f (l : List En) (hl : Small l) (i : Int) : Ev (fun k => pool_Field.f k l i) (fieldV l i) := by
  unfold fieldV
  rcases right_cases l i 5 with ⟨x, hr, hk, hw, h3⟩ | ⟨e, he, hr⟩
  · obtain ⟨_, ⟨y, hy⟩, z, hz⟩ := use_member hw (.inl h3)
    have hi := kindS_in hy
    have hj := kindS_in hz
    have hs := small_txt hl hz
    have hc := class_f l hl x.f3
    refine Ev.bind (right_f l hl i 5) ?_
    rw [hr]
    refine Ev_pos rfl (Ev.bind hc ?_)
    simp only [rightV]
    by_cases h0 : (classV l x.f3).2 = 0
    · rw [if_pos h0]
      exact Ev_pos h0 (Ev_pos hj.2.1 (Ev_pos hj.2.2.1 (Ev.bind (type_f (txtOf l x.f5) (by omega)) (Ev_pos hi.2.1 (Ev_pos hi.2.2.1 (Ev.now _))))))
    · rw [if_neg h0]
      exact Ev_neg h0 (Ev.now _)
  · refine Ev.bind (right_f l hl i 5) ?_
    rw [hr]
    exact Ev_neg he (Ev.now _)
theorem method_f (l : List En) (hl : Small l) (i : Int) : Ev (fun k => pool_Method.f k l i) (methodV l i) := by
  unfold methodV
  rcases right_cases l i 6 with ⟨x, hr, hk, hw, h3⟩ | ⟨e, he, hr⟩
  · obtain ⟨_, ⟨y, hy⟩, z, hz⟩ := use_member hw (.inr h3)
    have hi := kindS_in hy
    have hj := kindS_in hz
    have hs := small_txt hl hz
    have hc := class_f l hl x.f3
    refine Ev.bind (right_f l hl i 6) ?_
    rw [hr]
    refine Ev_pos rfl (Ev.bind hc ?_)
    simp only [rightV]
    by_cases h0 : (classV l x.f3).2 = 0
    · rw [if_pos h0]
      exact Ev_pos h0 (Ev_pos hj.2.1 (Ev_pos hj.2.2.1 (Ev.bind (dsig_f (txtOf l x.f5) (by omega)) (Ev_pos hi.2.1 (Ev_pos hi.2.2.1 (Ev.now _))))))
    · rw [if_neg h0]
      exact Ev_neg h0 (Ev.now _)
  · refine Ev.bind (right_f l hl i 6) ?_
    rw [hr]
    exact Ev_neg he (Ev.now _)
theorem kindS_app {l m : List En} {i w : Int} {y : En} (h : kindS l i w = some y) : kindS (l ++ m) i w = some y := by
  have hi := kindS_in h
  unfold kindS
  rw [if_pos hi.2.1, List.getElem?_append_left (by omega), hi.2.2.2.1]
  simp [hi.2.2.2.2]
theorem kindS_app' {l m : List En} {i : Int} (w : Int) (h0 : 0 ≤ i) (h1 : i < l.length) : kindS (l ++ m) i w = kindS l i w := by
  unfold kindS
  rw [if_pos h0, if_pos h0, List.getElem?_append_left (by omega)]
theorem txt_app {l : List En} (m : List En) {i w : Int} {y : En} (h : kindS l i w = some y) : txtOf (l ++ m) i = txtOf l i := by
  have hi := kindS_in h
  have hj := kindS_in (kindS_app (m := m) h)
  unfold txtOf
  rw [rdE hi.2.1 hi.2.2.2.1, rdE hj.2.1 hj.2.2.2.1]
theorem named_app {b : Bool} {l : List En} (m : List En) {i : Int} (h : namedS b l i = 0) : namedS b (l ++ m) i = 0 := by
  obtain ⟨y, hy⟩ := named_0 h
  unfold namedS at h ⊢
  rw [hy] at h
  rw [kindS_app hy]
  exact h
theorem typed_app {l : List En} (m : List En) {i : Int} (h : typedS l i = 0) : typedS (l ++ m) i = 0 := by
  obtain ⟨y, hy⟩ := typed_0 h
  unfold typedS at h ⊢
  rw [hy] at h
  rw [kindS_app hy]
  exact h
theorem signed_app {l : List En} (m : List En) {i : Int} (h : signedS l i = 0) : signedS (l ++ m) i = 0 := by
  obtain ⟨y, hy⟩ := signed_0 h
  unfold signedS at h ⊢
  rw [hy] at h
  rw [kindS_app hy]
  exact h
theorem uses_app {l : List En} (m : List En) {x : En} (h : usesS l x = 0) : usesS (l ++ m) x = 0 := by
  unfold usesS at h ⊢
  by_cases h1 : x.f0 = 1
  · rw [if_pos h1] at h ⊢; exact h
  rw [if_neg h1] at h ⊢
  by_cases h2 : x.f0 = 2
  · rw [if_pos h2]
  rw [if_neg h2] at h ⊢
  by_cases h3 : x.f0 = 3
  · rw [if_pos h3] at h ⊢; exact named_app m h
  rw [if_neg h3] at h ⊢
  by_cases h4 : x.f0 = 4
  · rw [if_pos h4] at h ⊢; exact typed_app m h
  rw [if_neg h4] at h ⊢
  cases hc : kindS l x.f3 3 with
  | none => rw [hc] at h; simp at h
  | some c =>
    rw [hc] at h
    rw [kindS_app hc]
    simp only at h ⊢
    by_cases h6 : x.f0 = 6
    · rw [if_pos h6] at h ⊢
      by_cases hn : namedS true l x.f4 = 0
      · rw [if_pos hn] at h
        rw [if_pos (named_app m hn)]
        exact signed_app m h
      · rw [if_neg hn] at h; exact absurd h hn
    · rw [if_neg h6] at h ⊢
      by_cases hn : namedS false l x.f4 = 0
      · rw [if_pos hn] at h
        rw [if_pos (named_app m hn)]
        exact typed_app m h
      · rw [if_neg hn] at h; exact absurd h hn
theorem wrong_app {l : List En} (m : List En) {x : En} (h : wrongS l x = 0) : wrongS (l ++ m) x = 0 := by
  have hu := wrong_uses h
  unfold wrongS at h ⊢
  split at h
  · simp at h
  · rename_i h0
    rw [if_neg h0]
    split at h
    · rename_i hc
      rw [if_pos hc]
      exact uses_app m hu
    · simp at h
theorem right_app {l : List En} (hl : AllR l) (m : List En) {i : Int} (w : Int) (h0 : 0 ≤ i) (h1 : i < l.length) : rightS (l ++ m) i w = rightS l i w := by
  unfold rightS
  rw [kindS_app' w h0 h1]
  cases h : kindS l i w with
  | none => rfl
  | some x =>
    have hx := hl x (kindS_in h).1
    simp only
    rw [if_pos hx, if_pos (wrong_app m hx)]
theorem text_app {l : List En} (hl : AllR l) (m : List En) {i : Int} (h0 : 0 ≤ i) (h1 : i < l.length) : textV (l ++ m) i = textV l i := by
  unfold textV; rw [right_app hl m 1 h0 h1]
theorem number_app {l : List En} (hl : AllR l) (m : List En) {i : Int} (h0 : 0 ≤ i) (h1 : i < l.length) : numberV (l ++ m) i = numberV l i := by
  unfold numberV; rw [right_app hl m 2 h0 h1]
theorem class_app {l : List En} (hl : AllR l) (m : List En) {i : Int} (h0 : 0 ≤ i) (h1 : i < l.length) : classV (l ++ m) i = classV l i := by
  unfold classV; rw [right_app hl m 3 h0 h1]
  rcases right_cases l i 3 with ⟨x, hr, hk, hw, h3⟩ | ⟨e, he, hr⟩
  · rw [hr]
    obtain ⟨y, hy⟩ := use_class hw h3
    simp only
    rw [txt_app m hy]
  · rw [hr]
theorem ptype_app {l : List En} (hl : AllR l) (m : List En) {i : Int} (h0 : 0 ≤ i) (h1 : i < l.length) : ptypeV (l ++ m) i = ptypeV l i := by
  unfold ptypeV; rw [right_app hl m 4 h0 h1]
  rcases right_cases l i 4 with ⟨x, hr, hk, hw, h3⟩ | ⟨e, he, hr⟩
  · rw [hr]
    obtain ⟨y, hy⟩ := use_type hw h3
    simp only
    rw [txt_app m hy]
  · rw [hr]
theorem field_app {l : List En} (hl : AllR l) (m : List En) {i : Int} (h0 : 0 ≤ i) (h1 : i < l.length) : fieldV (l ++ m) i = fieldV l i := by
  unfold fieldV; rw [right_app hl m 5 h0 h1]
  rcases right_cases l i 5 with ⟨x, hr, hk, hw, h3⟩ | ⟨e, he, hr⟩
  · rw [hr]
    obtain ⟨⟨c, hc⟩, ⟨y, hy⟩, z, hz⟩ := use_member hw (.inl h3)
    have hi := kindS_in hc
    simp only
    rw [txt_app m hy, txt_app m hz, class_app hl m hi.2.1 hi.2.2.1]
  · rw [hr]
theorem method_app {l : List En} (hl : AllR l) (m : List En) {i : Int} (h0 : 0 ≤ i) (h1 : i < l.length) : methodV (l ++ m) i = methodV l i := by
  unfold methodV; rw [right_app hl m 6 h0 h1]
  rcases right_cases l i 6 with ⟨x, hr, hk, hw, h3⟩ | ⟨e, he, hr⟩
  · rw [hr]
    obtain ⟨⟨c, hc⟩, ⟨y, hy⟩, z, hz⟩ := use_member hw (.inr h3)
    have hi := kindS_in hc
    simp only
    rw [txt_app m hy, txt_app m hz, class_app hl m hi.2.1 hi.2.2.1]
  · rw [hr]
end Go.Proofs.YtldejfkplnejjaaDoor.Pure
