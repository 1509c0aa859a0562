/- Chapter 2, plainly: a type written as a text. -/
import Derived.Test.YtlajkmnmooilmaaDoorPure2b
import Derived.Test.YtlajkmnmooilmaaDoorKinds
import Derived.Test.YtlajkmnmooilmaaDoorP9
namespace Go.Proofs.YtlajkmnmooilmaaDoor.Pure
open Go.RowKit Go.Proofs.YtlajkmnmooilmaaDoor.P Go.Proofs.YtlajkmnmooilmaaDoorW.PrintWords
set_option linter.unusedVariables false
def bodyL (m : List UInt8) : List UInt8 := if m = [] then [73] else 76 :: m ++ [59]
def textL (d : Nat) (m : List UInt8) : List UInt8 := List.replicate d 91 ++ bodyL m
def textS (d : Int) (s : ByteArray) : ByteArray × Int := if chk d s = 0 then (BA (textL d.toNat (LL s)), 0) else (⟨#[]⟩, chk d s)
theorem BA_append (a b : List UInt8) : BA a ++ BA b = BA (a ++ b) := LL_inj (by rw [LL_append, LL_BA, LL_BA, LL_BA])
theorem repeatL_one (c : UInt8) : ∀ n : Nat, Lib.repeatL [c] n = List.replicate n c
  | 0 => by simp [Lib.repeatL]
  | n + 1 => by
    have ih := repeatL_one c n
    simp only [Lib.repeatL, List.replicate_succ] at ih ⊢
    rw [ih]; rfl
theorem dtext_f (d : Int) (s : ByteArray) (hs : s.size ≤ 140737488355328) : Ev (fun k => desc_TypeText.f k d s) (textS d s) := by
  unfold desc_TypeText.f textS
  refine Ev.bind (dcheck_f d s hs) ?_
  by_cases h : chk d s = 0
  · rw [h]
    obtain ⟨h0, h1, h2, h3⟩ := chk_0 h
    have hl := LL_length s
    have hr : strings_Repeat.f (⟨#[91]⟩ : ByteArray) d = some (BA (List.replicate d.toNat 91)) := by
      unfold strings_Repeat.f
      rw [if_pos ⟨rfl, h0, by omega⟩]
      congr 1
      show BA (Lib.repeatL [91] d.toNat) = _
      rw [repeatL_one]
    refine Ev_pos rfl (Ev_bindc hr ?_)
    have hsz : (BA (List.replicate d.toNat (91 : UInt8))).size ≤ 8 := by rw [BA_size, List.length_replicate]; omega
    rw [if_pos rfl]
    by_cases h4 : s.toList = ([] : List UInt8)
    · refine Ev_pos h4 (Ev_pos (by omega) (Ev_const ?_))
      rw [toList_LL] at h4
      unfold textL bodyL
      rw [h4, if_pos rfl, show (⟨#[73]⟩ : ByteArray) = BA [73] from rfl, BA_append]
    · rw [show (⟨#[76]⟩ : ByteArray) = BA [76] from rfl, show (⟨#[59]⟩ : ByteArray) = BA [59] from rfl]
      have e : ((BA (List.replicate d.toNat (91 : UInt8)) ++ BA [76]) ++ s) ++ BA [59] = BA (textL d.toNat (LL s)) := by
        rw [toList_LL] at h4
        unfold textL bodyL
        rw [if_neg h4]
        conv => lhs; rw [← BA_LL s]
        rw [BA_append, BA_append, BA_append]
        simp
      refine Ev_neg h4 (Ev_pos (by omega) (Ev_pos ?_ (Ev_pos ?_ (Ev_const (by rw [e])))))
      · rw [BA_append, BA_size, List.length_append, List.length_replicate]; simp; omega
      · conv => lhs; rw [← BA_LL s]
        rw [BA_append, BA_append, BA_size]; simp; omega
  · exact Ev_neg h (by rw [if_neg h]; exact Ev.now _)
end Go.Proofs.YtlajkmnmooilmaaDoor.Pure
