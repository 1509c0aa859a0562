/- Chapter 2, plainly: signatures, read and written, compared. -/
import Derived.Test.YtlajkmnmooilmaaDoorPure2b
import Derived.Test.YtlajkmnmooilmaaDoorPure2b
import Derived.Test.YtlajkmnmooilmaaDoorExtSig
namespace Go.Proofs.YtlajkmnmooilmaaDoor.Pure
open Go.RowKit Go.Proofs.YtlajkmnmooilmaaDoor.P Go.Proofs.YtlajkmnmooilmaaDoorW.PrintWords
set_option linter.unusedVariables false
abbrev Ty := S26
abbrev SigV := List Ty × Bool × Int × ByteArray × Int

/-! ### read -/
def sigE (acc : List Ty) (r : List UInt8) : SigV :=
  if r = [86] then (if 16 < acc.length then ([], false, 0, ⟨#[]⟩, 4) else (acc, true, 0, ⟨#[]⟩, 0))
  else match firstL r with
    | some (n, m, []) => if 16 < acc.length then ([], false, 0, ⟨#[]⟩, 4) else (acc, false, (n : Int), BA m, 0)
    | _ => ([], false, 0, ⟨#[]⟩, 15)
def sigP : Nat → List Ty → List UInt8 → SigV
  | _, _, [] => ([], false, 0, ⟨#[]⟩, 15)
  | 0, _, _ :: _ => ([], false, 0, ⟨#[]⟩, 15)
  | f + 1, acc, c :: t => if c = 41 then sigE acc t else match firstL (c :: t) with
    | none => ([], false, 0, ⟨#[]⟩, 15)
    | some (n, m, r) => sigP f (acc ++ [⟨(n : Int), BA m⟩]) r
def sigS : List UInt8 → SigV
  | 40 :: t => sigP t.length [] t
  | _ => ([], false, 0, ⟨#[]⟩, 15)
theorem dsig_l : ∀ (f : Nat) (acc : List Ty) (s : ByteArray), s.size ≤ f → s.size ≤ 1000000000000 → acc.length + s.size ≤ 1000000000000 → Ev (fun k => desc_Sig.l0 k s acc false 0 ⟨#[]⟩) (sigP f acc (LL s))
  | f, acc, s, hf, hs, ha => by
    have hl := LL_length s
    refine Ev.step (fun k => by rw [desc_Sig.l0]) (Ev_bindc (hasPrefix_f s 41) ?_)
    match hu : LL s, f with
    | [], f =>
      refine Ev_neg (by simp) (Ev.bind (first_f s (by omega)) ?_)
      rw [hu]
      refine Ev_neg Bool.false_ne_true ?_
      cases f <;> exact Ev.now _
    | c :: t, 0 => rw [hu] at hl; simp at hl; omega
    | c :: t, f + 1 =>
      rw [hu] at hl
      simp only [List.length_cons] at hl
      by_cases hc : c = 41
      · subst hc
        refine Ev_pos (by simp) ?_
        have hx : s.extract 1 s.size = BA t := by rw [extract_BA, hu]; rfl
        show Ev _ (sigE acc t)
        unfold sigE
        by_cases hv : t = [86]
        · rw [if_pos hv]
          refine Ev_pos (by rw [toList_LL, hu, hv]) ?_
          by_cases h16 : 16 < acc.length
          · exact Ev_pos (by omega) (by rw [if_pos h16]; exact Ev.now _)
          · exact Ev_neg (by omega) (by rw [if_neg h16]; exact Ev.now _)
        · rw [if_neg hv]
          refine Ev_neg (by rw [toList_LL, hu]; simpa using hv) (Ev_pos (by omega) ?_)
          rw [hx]
          refine Ev.bind (first_f _ (by rw [BA_size]; omega)) ?_
          rw [LL_BA]
          have bad : ∀ (x : Int) (y : ByteArray), Ev (fun k => desc_Sig.j1 k true acc false x y) (([], false, 0, ⟨#[]⟩, 15) : SigV) := fun x y => by
            refine Ev.step (fun k => by rw [desc_Sig.j1]) ?_
            exact Ev_pos rfl (Ev.now _)
          cases hfl : firstL t with
          | none => exact Ev_neg Bool.false_ne_true (bad _ _)
          | some q =>
            obtain ⟨n, m, r⟩ := q
            refine Ev_pos rfl ?_
            cases r with
            | nil =>
              have e : ((BA []).toList != ([] : List UInt8)) = false := by rw [toList_LL, LL_BA]; rfl
              show Ev (fun k => desc_Sig.j1 k ((BA []).toList != ([] : List UInt8)) acc false (n : Int) (BA m)) _
              rw [e]
              refine Ev.step (fun k => by rw [desc_Sig.j1]) (Ev_neg Bool.false_ne_true ?_)
              by_cases h16 : 16 < acc.length
              · exact Ev_pos (by omega) (by simp only; rw [if_pos h16]; exact Ev.now _)
              · exact Ev_neg (by omega) (by simp only; rw [if_neg h16]; exact Ev.now _)
            | cons x r =>
              have e : ((BA (x :: r)).toList != ([] : List UInt8)) = true := by rw [toList_LL, LL_BA]; rfl
              show Ev (fun k => desc_Sig.j1 k ((BA (x :: r)).toList != ([] : List UInt8)) acc false (n : Int) (BA m)) _
              rw [e]
              exact bad _ _
      · refine Ev_neg (by simpa using hc) (Ev.bind (first_f s (by omega)) ?_)
        rw [hu]
        simp only [sigP]
        rw [if_neg hc]
        cases hfl : firstL (c :: t) with
        | none => exact Ev_neg Bool.false_ne_true (Ev.now _)
        | some q =>
          obtain ⟨n, m, r⟩ := q
          obtain ⟨h1, h2, h3⟩ := first_len hfl
          simp only [List.length_cons] at h1
          refine Ev_pos rfl (Ev_pos (by omega) ?_)
          have ih := dsig_l f (acc ++ [⟨(n : Int), BA m⟩]) (BA r) (by rw [BA_size]; omega) (by rw [BA_size]; omega) (by rw [BA_size]; simp; omega)
          rw [LL_BA] at ih
          exact ih
theorem dsig_f (s : ByteArray) (hs : s.size ≤ 1000000000000) : Ev (fun k => desc_Sig.f k s) (sigS (LL s)) := by
  unfold desc_Sig.f
  have hl := LL_length s
  refine Ev_bindc (hasPrefix_f s 40) ?_
  cases hu : LL s with
  | nil => exact Ev_neg (by simp) (Ev.now _)
  | cons c t =>
    rw [hu] at hl
    simp only [List.length_cons] at hl
    by_cases hc : c = 40
    · subst hc
      refine Ev_pos (by simp) (Ev_pos (by omega) ?_)
      have hx : s.extract 1 s.size = BA t := by rw [extract_BA, hu]; rfl
      rw [hx]
      have := dsig_l t.length [] (BA t) (by rw [BA_size]; exact Nat.le_refl _) (by rw [BA_size]; omega) (by rw [BA_size]; simp; omega)
      rw [LL_BA] at this
      exact this
    · refine Ev_neg (by simpa using hc) ?_
      have e : sigS (c :: t) = ([], false, 0, ⟨#[]⟩, 15) := by
        unfold sigS
        split
        · rename_i h; simp at h; exact absurd h.1 hc
        · rfl
      rw [e]
      exact Ev.now _
end Go.Proofs.YtlajkmnmooilmaaDoor.Pure
