/- Chapter 2, plainly: a type written as a text. -/
import Derived.Test.YtlajkmnmooilmaaDoorPure2b
import Derived.Test.YtlajkmnmooilmaaDoorKinds
import Derived.Test.YtlajkmnmooilmaaDoorP8
import Derived.Test.YtlajkmnmooilmaaDoorP9
namespace Go.Proofs.YtlajkmnmooilmaaDoor.Pure
open Go.RowKit Go.Proofs.YtlajkmnmooilmaaDoor.P Go.Proofs.YtlajkmnmooilmaaDoorW.PrintWords
set_option linter.unusedVariables false
def bodyL (m : List UInt8) : List UInt8 := if m = [] then [73] else 76 :: m ++ [59]
def textL (d : Nat) (m : List UInt8) : List UInt8 := List.replicate d 91 ++ bodyL m
def textS (d : Int) (s : ByteArray) : ByteArray × Int := if chk d s = 0 then (BA (textL d.toNat (LL s)), 0) else (⟨#[]⟩, chk d s)
theorem BA_append (a b : List UInt8) : BA a ++ BA b = BA (a ++ b) := LL_inj (by rw [LL_append, LL_BA, LL_BA, LL_BA])
theorem repeatL_one (c : UInt8) : ∀ n : Nat, Lib.repeatL [c] n = List.replicate n c
  | 0 => by simp [Lib.repeatL]
  | n + 1 => by
    have ih := repeatL_one c n
    simp only [Lib.repeatL, List.replicate_succ] at ih ⊢
    rw [ih]; rfl
theorem dtext_f (d : Int) (s : ByteArray) (hs : s.size ≤ 140737488355328) : Ev (fun k => desc_TypeText.f k d s) (textS d s) := by
  unfold desc_TypeText.f textS
  refine Ev.bind (dcheck_f d s hs) ?_
  by_cases h : chk d s = 0
  · rw [h]
    obtain ⟨h0, h1, h2, h3⟩ := chk_0 h
    have hl := LL_length s
    have hr : strings_Repeat.f (⟨#[91]⟩ : ByteArray) d = some (BA (List.replicate d.toNat 91)) := by
      unfold strings_Repeat.f
      rw [if_pos ⟨rfl, h0, by omega⟩]
      congr 1
      show BA (Lib.repeatL [91] d.toNat) = _
      rw [repeatL_one]
    refine Ev_pos rfl (Ev_bindc hr ?_)
    have hsz : (BA (List.replicate d.toNat (91 : UInt8))).size ≤ 8 := by rw [BA_size, List.length_replicate]; omega
    rw [if_pos rfl]
    by_cases h4 : s.toList = ([] : List UInt8)
    · refine Ev_pos h4 (Ev_pos (by omega) (Ev_const ?_))
      rw [toList_LL] at h4
      unfold textL bodyL
      rw [h4, if_pos rfl, show (⟨#[73]⟩ : ByteArray) = BA [73] from rfl, BA_append]
    · rw [show (⟨#[76]⟩ : ByteArray) = BA [76] from rfl, show (⟨#[59]⟩ : ByteArray) = BA [59] from rfl]
      have e : ((BA (List.replicate d.toNat (91 : UInt8)) ++ BA [76]) ++ s) ++ BA [59] = BA (textL d.toNat (LL s)) := by
        rw [toList_LL] at h4
        unfold textL bodyL
        rw [if_neg h4]
        conv => lhs; rw [← BA_LL s]
        rw [BA_append, BA_append, BA_append]
        simp
      refine Ev_neg h4 (Ev_pos (by omega) (Ev_pos ?_ (Ev_pos ?_ (Ev_const (by rw [e])))))
      · rw [BA_append, BA_size, List.length_append, List.length_replicate]; simp; omega
      · conv => lhs; rw [← BA_LL s]
        rw [BA_append, BA_append, BA_size]; simp; omega
  · exact Ev_neg h (by rw [if_neg h]; exact Ev.now _)
theorem pre_l (d : Int) (s : ByteArray) (m : List UInt8) (hm : m.length ≤ 1000) (hd : d ≤ 8) : ∀ (c j : Nat), (j : Int) + c = d → Ev (fun k => keystoneref2_TypeText.l0 k (BA (List.replicate j 91 ++ m)) (j : Int) d s) ((BA (List.replicate (j + c) 91 ++ m), 0) : ByteArray × Int)
  | 0, j, hj => by
    refine Ev.step (fun k => by rw [keystoneref2_TypeText.l0]) (Ev_neg (by omega) ?_)
    exact Ev.now _
  | c + 1, j, hj => by
    refine Ev.step (fun k => by rw [keystoneref2_TypeText.l0]) (Ev_pos (by omega) (Ev_pos (by rw [BA_size]; simp; omega) ?_))
    rw [show wrap64 ((j : Int) + 1) = ((j + 1 : Nat) : Int) by rw [w64] <;> omega, show (⟨#[91]⟩ : ByteArray) = BA [91] from rfl, BA_append]
    have ih := pre_l d s m hm hd c (j + 1) (by omega)
    rw [show j + (c + 1) = j + 1 + c by omega]
    rwa [show ([91] : List UInt8) ++ (List.replicate j 91 ++ m) = List.replicate (j + 1) 91 ++ m by simp [List.replicate_succ]]
theorem rtext_f (d : Int) (s : ByteArray) (hs : s.size ≤ 140737488355328) : Ev (fun k => keystoneref2_TypeText.f k d s) (textS d s) := by
  unfold keystoneref2_TypeText.f textS
  refine Ev.bind (rcheck_f d s hs) ?_
  by_cases h : chk d s = 0
  · rw [h]
    obtain ⟨h0, h1, h2, h3⟩ := chk_0 h
    have hl := LL_length s
    refine Ev_pos rfl ?_
    rw [if_pos rfl]
    have run : ∀ m : List UInt8, m.length ≤ 1000 → Ev (fun k => keystoneref2_TypeText.j0 k (BA m) d s) ((BA (List.replicate d.toNat 91 ++ m), 0) : ByteArray × Int) := fun m hm => by
      refine Ev.step (fun k => by rw [keystoneref2_TypeText.j0]) ?_
      have := pre_l d s m hm h1 d.toNat 0 (by omega)
      rw [Nat.zero_add] at this
      exact this
    by_cases h4 : s.toList = ([] : List UInt8)
    · refine Ev_pos h4 ?_
      have := run [73] (by simp)
      rw [toList_LL] at h4
      unfold textL bodyL
      rw [h4, if_pos rfl]
      exact this
    · have e : (BA [76] ++ s) ++ BA [59] = BA (76 :: LL s ++ [59]) := by
        conv => lhs; rw [← BA_LL s]
        rw [BA_append, BA_append]; rfl
      rw [show (⟨#[76]⟩ : ByteArray) = BA [76] from rfl, show (⟨#[59]⟩ : ByteArray) = BA [59] from rfl, e]
      refine Ev_neg h4 (Ev_pos (by omega) (Ev_pos ?_ ?_))
      · conv => lhs; rw [← BA_LL s]
        rw [BA_append, BA_size]; simp; omega
      · have := run (76 :: LL s ++ [59]) (by simp; omega)
        rw [toList_LL] at h4
        unfold textL bodyL
        rw [if_neg h4]
        exact this
  · exact Ev_neg h (by rw [if_neg h]; exact Ev.now _)
end Go.Proofs.YtlajkmnmooilmaaDoor.Pure
