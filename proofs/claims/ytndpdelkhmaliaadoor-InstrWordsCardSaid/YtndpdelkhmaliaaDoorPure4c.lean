/- Chapter 4, plainly: the words, and what comes next. -/
import Derived.Test.YtndpdelkhmaliaaDoorPure4
import Derived.Test.YtndpdelkhmaliaaDoorP2
import Derived.Test.YtndpdelkhmaliaaDoorP4
import Derived.Test.YtndpdelkhmaliaaDoorP5
namespace Go.Proofs.YtndpdelkhmaliaaDoor.Pure
open Go.RowKit Go.Proofs.YtndpdelkhmaliaaDoor.P Go.Proofs.YtndpdelkhmaliaaDoorW.PrintWords
set_option linter.unusedVariables false
set_option maxRecDepth 100000

/-! ### words -/
def WL : List ByteArray := [(⟨#[110, 111, 112]⟩ : ByteArray), (⟨#[110, 117, 109, 98, 101, 114]⟩ : ByteArray), (⟨#[110, 105, 108]⟩ : ByteArray), (⟨#[108, 111, 97, 100]⟩ : ByteArray), (⟨#[115, 116, 111, 114, 101]⟩ : ByteArray), (⟨#[112, 111, 112]⟩ : ByteArray), (⟨#[100, 117, 112]⟩ : ByteArray), (⟨#[115, 119, 97, 112]⟩ : ByteArray), (⟨#[97, 100, 100]⟩ : ByteArray), (⟨#[115, 117, 98]⟩ : ByteArray), (⟨#[109, 117, 108]⟩ : ByteArray), (⟨#[100, 105, 118]⟩ : ByteArray), (⟨#[114, 101, 109]⟩ : ByteArray), (⟨#[110, 101, 103]⟩ : ByteArray), (⟨#[97, 110, 100]⟩ : ByteArray), (⟨#[111, 114]⟩ : ByteArray), (⟨#[120, 111, 114]⟩ : ByteArray), (⟨#[115, 104, 108]⟩ : ByteArray), (⟨#[115, 104, 114]⟩ : ByteArray), (⟨#[106, 117, 109, 112]⟩ : ByteArray), (⟨#[122, 101, 114, 111]⟩ : ByteArray), (⟨#[109, 105, 110, 117, 115]⟩ : ByteArray), (⟨#[108, 101, 115, 115]⟩ : ByteArray), (⟨#[105, 115, 110, 105, 108]⟩ : ByteArray), (⟨#[115, 97, 109, 101]⟩ : ByteArray), (⟨#[110, 101, 119]⟩ : ByteArray), (⟨#[103, 101, 116]⟩ : ByteArray), (⟨#[112, 117, 116]⟩ : ByteArray), (⟨#[103, 101, 116, 115]⟩ : ByteArray), (⟨#[112, 117, 116, 115]⟩ : ByteArray), (⟨#[97, 114, 114, 97, 121]⟩ : ByteArray), (⟨#[110, 117, 109, 103, 101, 116]⟩ : ByteArray), (⟨#[110, 117, 109, 112, 117, 116]⟩ : ByteArray), (⟨#[114, 101, 102, 103, 101, 116]⟩ : ByteArray), (⟨#[114, 101, 102, 112, 117, 116]⟩ : ByteArray), (⟨#[108, 101, 110, 103, 116, 104]⟩ : ByteArray), (⟨#[99, 97, 115, 116]⟩ : ByteArray), (⟨#[105, 115]⟩ : ByteArray), (⟨#[99, 97, 108, 108]⟩ : ByteArray), (⟨#[102, 97, 99, 101]⟩ : ByteArray), (⟨#[115, 116, 97, 116, 105, 99]⟩ : ByteArray), (⟨#[105, 110, 105, 116]⟩ : ByteArray), (⟨#[114, 101, 116, 117, 114, 110]⟩ : ByteArray), (⟨#[103, 105, 118, 101]⟩ : ByteArray), (⟨#[116, 104, 114, 111, 119]⟩ : ByteArray), (⟨#[112, 114, 105, 110, 116]⟩ : ByteArray)]
theorem words_f : strings_Fields.f (⟨#[110, 111, 112, 32, 110, 117, 109, 98, 101, 114, 32, 110, 105, 108, 32, 108, 111, 97, 100, 32, 115, 116, 111, 114, 101, 32, 112, 111, 112, 32, 100, 117, 112, 32, 115, 119, 97, 112, 32, 97, 100, 100, 32, 115, 117, 98, 32, 109, 117, 108, 32, 100, 105, 118, 32, 114, 101, 109, 32, 110, 101, 103, 32, 97, 110, 100, 32, 111, 114, 32, 120, 111, 114, 32, 115, 104, 108, 32, 115, 104, 114, 32, 106, 117, 109, 112, 32, 122, 101, 114, 111, 32, 109, 105, 110, 117, 115, 32, 108, 101, 115, 115, 32, 105, 115, 110, 105, 108, 32, 115, 97, 109, 101, 32, 110, 101, 119, 32, 103, 101, 116, 32, 112, 117, 116, 32, 103, 101, 116, 115, 32, 112, 117, 116, 115, 32, 97, 114, 114, 97, 121, 32, 110, 117, 109, 103, 101, 116, 32, 110, 117, 109, 112, 117, 116, 32, 114, 101, 102, 103, 101, 116, 32, 114, 101, 102, 112, 117, 116, 32, 108, 101, 110, 103, 116, 104, 32, 99, 97, 115, 116, 32, 105, 115, 32, 99, 97, 108, 108, 32, 102, 97, 99, 101, 32, 115, 116, 97, 116, 105, 99, 32, 105, 110, 105, 116, 32, 114, 101, 116, 117, 114, 110, 32, 103, 105, 118, 101, 32, 116, 104, 114, 111, 119, 32, 112, 114, 105, 110, 116]⟩ : ByteArray) = some WL := by decide +kernel
theorem rnames_f : keystoneref4_Names.f = some WL := rfl
theorem WL_length : WL.length = 46 := rfl
def nameS (op : Int) : ByteArray := if 0 ≤ op ∧ op < 46 then rdOf ByteArray.empty WL op else ⟨#[]⟩
theorem name_f (op : Int) : instr_Name.f op = some (nameS op) := by
  have hL : WL.length = 46 := rfl
  unfold instr_Name.f nameS
  rw [words_f]
  simp only [Option.bind_some]
  by_cases h0 : op ≥ 0
  · rw [if_pos h0]
    by_cases h1 : op < (WL.length : Int)
    · rw [if_pos h1, if_pos h0, if_pos (by omega)]
    · rw [if_neg h1, if_neg (by omega)]
  · rw [if_neg h0, if_neg (by omega)]
theorem rname_f (op : Int) : keystoneref4_Name.f op = some (nameS op) := by
  have hL : WL.length = 46 := rfl
  unfold keystoneref4_Name.f nameS
  rw [rnames_f]
  simp only [Option.bind_some]
  by_cases h0 : op < 0
  · rw [if_pos h0, if_neg (by omega)]
  rw [if_neg h0]
  by_cases h1 : op ≥ (WL.length : Int)
  · rw [if_pos h1, if_neg (by omega)]
  · rw [if_neg h1, if_pos (by omega), if_pos (by omega), if_pos (by omega)]
def findB (s : ByteArray) : List ByteArray → Option Nat
  | [] => none
  | x :: l => if s.toList = x.toList then some 0 else (findB s l).map (· + 1)
def opS (s : ByteArray) : Int × Bool := match findB s WL with | some i => ((i : Int), true) | none => (0, false)
theorem index_f (s : ByteArray) (l : List ByteArray) (hl : l.length ≤ 2000000) : ∀ (d j : Nat), j + d = l.length →
    Ev (fun k => slices_Index_string_string.l0 k l s (l.length : Int) (j : Int)) (match findB s (l.drop j) with | some i => ((j + i : Nat) : Int) | none => -1)
  | 0, j, hj => by
    refine Ev.step (fun k => by rw [slices_Index_string_string.l0]) ?_
    rw [List.drop_of_length_le (by omega)]
    exact Ev_neg (by omega) (Ev.now _)
  | d + 1, j, hj => by
    obtain ⟨x, hx⟩ := at_of (l := l) (j := j) (by omega)
    have hr : rdOf ByteArray.empty l (j : Int) = x := getD_at rfl hx
    have ih := index_f s l hl d (j + 1) (by omega)
    rw [drop_at hx]
    refine Ev.step (fun k => by rw [slices_Index_string_string.l0]) ?_
    simp only [hr]
    refine Ev_pos (by omega) (Ev_pos (by omega) (Ev_pos (by omega) ?_))
    simp only [findB]
    by_cases h : s.toList = x.toList
    · rw [if_pos h]; exact Ev_pos h (Ev_const (by simp))
    · rw [if_neg h]
      refine Ev_neg h ?_
      rw [show wrap64 ((j : Int) + 1) = ((j + 1 : Nat) : Int) by rw [w64] <;> omega]
      refine cast (congrArg _ ?_) ih
      cases findB s (l.drop (j + 1)) with
      | none => rfl
      | some i => simp only [Option.map_some]; congr 1; omega
theorem op_f (s : ByteArray) : Ev (fun k => instr_Op.f k s) (opS s) := by
  unfold instr_Op.f opS
  refine Ev_bindc words_f (Ev.bind (index_f s WL (by decide) 46 0 rfl) ?_)
  rw [List.drop_zero]
  cases findB s WL with
  | none => exact Ev_neg (by decide) (Ev.now _)
  | some i => exact Ev_pos (by show ((0 + i : Nat) : Int) ≥ 0; omega) (Ev_const (by simp))
theorem rop_l (s : ByteArray) (l : List ByteArray) (hl : l.length ≤ 2000000) : ∀ (d j : Nat), j + d = l.length →
    Ev (fun k => keystoneref4_Op.l0 k s l (j : Int)) (match findB s (l.drop j) with | some i => (((j + i : Nat) : Int), true) | none => (0, false))
  | 0, j, hj => by
    refine Ev.step (fun k => by rw [keystoneref4_Op.l0]) ?_
    rw [List.drop_of_length_le (by omega)]
    exact Ev_neg (by omega) (Ev.now _)
  | d + 1, j, hj => by
    obtain ⟨x, hx⟩ := at_of (l := l) (j := j) (by omega)
    have hr : rdOf ByteArray.empty l (j : Int) = x := getD_at rfl hx
    have ih := rop_l s l hl d (j + 1) (by omega)
    rw [drop_at hx]
    refine Ev.step (fun k => by rw [keystoneref4_Op.l0]) ?_
    simp only [hr]
    refine Ev_pos (by omega) (Ev_pos (by omega) ?_)
    simp only [findB]
    by_cases h : s.toList = x.toList
    · rw [if_pos h]; exact Ev_pos h.symm (Ev_const (by simp))
    · rw [if_neg h]
      refine Ev_neg (fun e => h e.symm) ?_
      rw [show wrap64 ((j : Int) + 1) = ((j + 1 : Nat) : Int) by rw [w64] <;> omega]
      refine cast (congrArg _ ?_) ih
      cases findB s (l.drop (j + 1)) with
      | none => rfl
      | some i => simp only [Option.map_some]; congr 2; omega
theorem rop_f (s : ByteArray) : Ev (fun k => keystoneref4_Op.f k s) (opS s) := by
  unfold keystoneref4_Op.f opS
  refine Ev_bindc rnames_f ?_
  have h := rop_l s WL (by decide) 46 0 rfl
  rw [List.drop_zero] at h
  refine cast (congrArg _ ?_) h
  cases findB s WL with
  | none => rfl
  | some i => simp

/-! ### what comes next -/
def nextS (a o n s : Int) : List Int := if size o = 0 ∨ o = 42 ∨ o = 43 ∨ o = 44 then [] else if o = 19 then [n] else if 19 ≤ o ∧ o ≤ 24 ∧ n ≠ wrap64 (a + s) then [wrap64 (a + s), n] else [wrap64 (a + s)]
theorem next_j (on a o n s : Int) (b : Bool) : Ev (fun k => instr_Next.j0 k on b a o n s) (if b = true then [] else if o = 19 then [n] else if 19 ≤ o ∧ o ≤ 24 ∧ n ≠ on then [on, n] else [on]) := by
  refine Ev.step (fun k => by rw [instr_Next.j0]) ?_
  cases b with
  | true => exact Ev_pos rfl (Ev.now _)
  | false =>
    refine Ev_neg Bool.false_ne_true ?_
    rw [if_neg Bool.false_ne_true]
    by_cases h : o = 19
    · exact Ev_pos h (by rw [if_pos h]; exact Ev.now _)
    refine Ev_neg h ?_
    rw [if_neg h]
    refine (Ev_bindc (jumps_f o) ?_)
    by_cases hj : 19 ≤ o ∧ o ≤ 24
    · rw [decide_eq_true hj]
      by_cases hn : n = on
      · exact Ev_pos rfl (Ev_pos hn (by rw [if_neg (by omega)]; exact Ev.now _))
      · exact Ev_pos rfl (Ev_neg hn (by rw [if_pos ⟨hj.1, hj.2, hn⟩]; exact Ev.now _))
    · rw [decide_eq_false hj]; exact Ev_neg Bool.false_ne_true (by rw [if_neg (by omega)]; exact Ev.now _)
theorem next_f (a o n s : Int) : Ev (fun k => instr_Next.f k a o n s) (nextS a o n s) := by
  unfold instr_Next.f nextS
  refine Ev.bind (size_f o) ?_
  by_cases h0 : size o = 0
  · rw [if_pos (.inl h0)]; exact Ev_pos h0 (by simpa using next_j (wrap64 (a + s)) a o n s true)
  refine Ev_neg h0 ?_
  by_cases h1 : o = 42
  · rw [if_pos (.inr (.inl h1))]; exact Ev_pos h1 (by simpa using next_j (wrap64 (a + s)) a o n s true)
  refine Ev_neg h1 ?_
  by_cases h2 : o = 43
  · rw [if_pos (.inr (.inr (.inl h2)))]; exact Ev_pos h2 (by simpa using next_j (wrap64 (a + s)) a o n s true)
  refine Ev_neg h2 ?_
  by_cases h3 : o = 44
  · rw [if_pos (.inr (.inr (.inr h3))), show (o == 44) = true by simp [h3]]; simpa using next_j (wrap64 (a + s)) a o n s true
  · rw [if_neg (by omega), show (o == 44) = false by simp [h3]]; simpa using next_j (wrap64 (a + s)) a o n s false
theorem rnext_j (a o n s : Int) (b : Bool) : Ev (fun k => keystoneref4_Next.j0 k b a o n s) (if b = true then [] else if o = 19 then [n] else if 19 ≤ o ∧ o ≤ 24 ∧ n ≠ wrap64 (a + s) then [wrap64 (a + s), n] else [wrap64 (a + s)]) := by
  refine Ev.step (fun k => by rw [keystoneref4_Next.j0]) ?_
  cases b with
  | true => exact Ev_pos rfl (Ev.now _)
  | false =>
    refine Ev_neg Bool.false_ne_true ?_
    rw [if_neg Bool.false_ne_true]
    by_cases h : o = 19
    · exact Ev_pos h (by rw [if_pos h]; exact Ev.now _)
    refine Ev_neg h ?_
    rw [if_neg h]
    refine (Ev_bindc (rjumps_f o) ?_)
    by_cases hj : 19 ≤ o ∧ o ≤ 24
    · rw [decide_eq_true hj]
      by_cases hn : n = wrap64 (a + s)
      · exact Ev_pos rfl (Ev_pos hn (by rw [if_neg (by omega)]; exact Ev.now _))
      · exact Ev_pos rfl (Ev_neg hn (by rw [if_pos ⟨hj.1, hj.2, hn⟩]; exact Ev.now _))
    · rw [decide_eq_false hj]; exact Ev_neg Bool.false_ne_true (by rw [if_neg (by omega)]; exact Ev.now _)
theorem rnext_f (a o n s : Int) : Ev (fun k => keystoneref4_Next.f k a o n s) (nextS a o n s) := by
  unfold keystoneref4_Next.f nextS
  refine Ev.bind (rsize_f o) ?_
  by_cases h0 : size o = 0
  · rw [if_pos (.inl h0)]; exact Ev_pos h0 (by simpa using rnext_j a o n s true)
  refine Ev_neg h0 ?_
  by_cases h1 : o = 42
  · rw [if_pos (.inr (.inl h1))]; exact Ev_pos h1 (by simpa using rnext_j a o n s true)
  refine Ev_neg h1 ?_
  by_cases h2 : o = 43
  · rw [if_pos (.inr (.inr (.inl h2)))]; exact Ev_pos h2 (by simpa using rnext_j a o n s true)
  refine Ev_neg h2 ?_
  by_cases h3 : o = 44
  · rw [if_pos (.inr (.inr (.inr h3))), show (o == 44) = true by simp [h3]]; simpa using rnext_j a o n s true
  · rw [if_neg (by omega), show (o == 44) = false by simp [h3]]; simpa using rnext_j a o n s false
theorem nextS_len (a o n s : Int) : (nextS a o n s).length ≤ 2 := by
  unfold nextS
  repeat' split
  all_goals simp
theorem sameInts_l (a : List Int) (ha : a.length ≤ 2000000) : ∀ (d j : Nat), j + d = a.length → Ev (fun k => keystonelaw4_sameInts.l0 k a a (j : Int)) true
  | 0, j, hj => by
    refine Ev.step (fun k => by rw [keystonelaw4_sameInts.l0]) ?_
    exact Ev_neg (by omega) (Ev.now _)
  | d + 1, j, hj => by
    refine Ev.step (fun k => by rw [keystonelaw4_sameInts.l0]) ?_
    refine Ev_pos (by omega) (Ev_pos (by omega) (Ev_pos (by omega) (Ev_pos rfl ?_)))
    rw [show wrap64 ((j : Int) + 1) = ((j + 1 : Nat) : Int) by rw [w64] <;> omega]
    exact sameInts_l a ha d (j + 1) (by omega)
theorem sameInts_self (a : List Int) (ha : a.length ≤ 2000000) : Ev (fun k => keystonelaw4_sameInts.f k a a) true := by
  unfold keystonelaw4_sameInts.f
  exact Ev_pos rfl (sameInts_l a ha a.length 0 (by omega))
end Go.Proofs.YtndpdelkhmaliaaDoor.Pure
