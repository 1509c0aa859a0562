-- Written by my program xprint.py (a patched run of the kit's print). Lean checks it.
import Derived.Test.YtldejfkplnejjaaDoorP0
import Derived.Test.YtldejfkplnejjaaDoorP6
import Derived.Test.YtldejfkplnejjaaDoorExt
import Derived.Test.YtldejfkplnejjaaDoorShort
import Derived.Test.YtldejfkplnejjaaDoorShort2
namespace Go.Proofs.YtldejfkplnejjaaDoor.P
open Go.RowKit Go.Proofs.YtldejfkplnejjaaDoorW.PrintWords Go.Proofs.YtldejfkplnejjaaDoorW.PrintLast Go.Proofs.YtldejfkplnejjaaDoorW.PrintMore
attribute [local go_sem] max2_int min2_int max_two min_two max_three min_three max_four min_four   -- for this text's walks alone
set_option linter.unusedVariables false
set_option linter.unusedSimpArgs false
mutual
def keystoneref3_Wrong.j0 : Nat → List (S50) → Int → Bool → Int → ByteArray → Int → Int → Int → Int → Option (Int)
  | 0, _, _, _, _, _, _, _, _, _ => none
  | k + 1, x0, x6, x21, x202000, x202001, x202002, x202003, x202004, x202005 => if x21 = true then (some 3) else (if x6 = 1 then (if x6 = 2 then (if x6 < 3 then (if x202003 = 0 then (if x6 < 5 then (if x202004 = 0 then (keystoneref3_Wrong.j1 k x0 x6 (x202005 != 0) x202000 x202001 x202002 x202003 x202004 x202005) else (keystoneref3_Wrong.j1 k x0 x6 true x202000 x202001 x202002 x202003 x202004 x202005)) else (keystoneref3_Wrong.j1 k x0 x6 false x202000 x202001 x202002 x202003 x202004 x202005)) else (keystoneref3_Wrong.j1 k x0 x6 true x202000 x202001 x202002 x202003 x202004 x202005)) else (if x6 < 5 then (if x202004 = 0 then (keystoneref3_Wrong.j1 k x0 x6 (x202005 != 0) x202000 x202001 x202002 x202003 x202004 x202005) else (keystoneref3_Wrong.j1 k x0 x6 true x202000 x202001 x202002 x202003 x202004 x202005)) else (keystoneref3_Wrong.j1 k x0 x6 false x202000 x202001 x202002 x202003 x202004 x202005))) else (if x202002 = 0 then (if x6 < 3 then (if x202003 = 0 then (if x6 < 5 then (if x202004 = 0 then (keystoneref3_Wrong.j1 k x0 x6 (x202005 != 0) x202000 x202001 x202002 x202003 x202004 x202005) else (keystoneref3_Wrong.j1 k x0 x6 true x202000 x202001 x202002 x202003 x202004 x202005)) else (keystoneref3_Wrong.j1 k x0 x6 false x202000 x202001 x202002 x202003 x202004 x202005)) else (keystoneref3_Wrong.j1 k x0 x6 true x202000 x202001 x202002 x202003 x202004 x202005)) else (if x6 < 5 then (if x202004 = 0 then (keystoneref3_Wrong.j1 k x0 x6 (x202005 != 0) x202000 x202001 x202002 x202003 x202004 x202005) else (keystoneref3_Wrong.j1 k x0 x6 true x202000 x202001 x202002 x202003 x202004 x202005)) else (keystoneref3_Wrong.j1 k x0 x6 false x202000 x202001 x202002 x202003 x202004 x202005))) else (keystoneref3_Wrong.j1 k x0 x6 true x202000 x202001 x202002 x202003 x202004 x202005))) else (if x202001.toList = ([] : List UInt8) then (if x6 = 2 then (if x6 < 3 then (if x202003 = 0 then (if x6 < 5 then (if x202004 = 0 then (keystoneref3_Wrong.j1 k x0 x6 (x202005 != 0) x202000 x202001 x202002 x202003 x202004 x202005) else (keystoneref3_Wrong.j1 k x0 x6 true x202000 x202001 x202002 x202003 x202004 x202005)) else (keystoneref3_Wrong.j1 k x0 x6 false x202000 x202001 x202002 x202003 x202004 x202005)) else (keystoneref3_Wrong.j1 k x0 x6 true x202000 x202001 x202002 x202003 x202004 x202005)) else (if x6 < 5 then (if x202004 = 0 then (keystoneref3_Wrong.j1 k x0 x6 (x202005 != 0) x202000 x202001 x202002 x202003 x202004 x202005) else (keystoneref3_Wrong.j1 k x0 x6 true x202000 x202001 x202002 x202003 x202004 x202005)) else (keystoneref3_Wrong.j1 k x0 x6 false x202000 x202001 x202002 x202003 x202004 x202005))) else (if x202002 = 0 then (if x6 < 3 then (if x202003 = 0 then (if x6 < 5 then (if x202004 = 0 then (keystoneref3_Wrong.j1 k x0 x6 (x202005 != 0) x202000 x202001 x202002 x202003 x202004 x202005) else (keystoneref3_Wrong.j1 k x0 x6 true x202000 x202001 x202002 x202003 x202004 x202005)) else (keystoneref3_Wrong.j1 k x0 x6 false x202000 x202001 x202002 x202003 x202004 x202005)) else (keystoneref3_Wrong.j1 k x0 x6 true x202000 x202001 x202002 x202003 x202004 x202005)) else (if x6 < 5 then (if x202004 = 0 then (keystoneref3_Wrong.j1 k x0 x6 (x202005 != 0) x202000 x202001 x202002 x202003 x202004 x202005) else (keystoneref3_Wrong.j1 k x0 x6 true x202000 x202001 x202002 x202003 x202004 x202005)) else (keystoneref3_Wrong.j1 k x0 x6 false x202000 x202001 x202002 x202003 x202004 x202005))) else (keystoneref3_Wrong.j1 k x0 x6 true x202000 x202001 x202002 x202003 x202004 x202005))) else (keystoneref3_Wrong.j1 k x0 x6 true x202000 x202001 x202002 x202003 x202004 x202005)))
def keystoneref3_Wrong.j1 : Nat → List (S50) → Int → Bool → Int → ByteArray → Int → Int → Int → Int → Option (Int)
  | 0, _, _, _, _, _, _, _, _, _ => none
  | k + 1, x0, x6, x60, x202000, x202001, x202002, x202003, x202004, x202005 => if x60 = true then (some 1) else (if x6 = 1 then (if (x202001.size : Int) > 255 then (some 5) else (some 0)) else (if x6 = 3 then ((keystoneref3_text.f k x0 x202003 1).bind fun t202 => (some t202)) else (if x6 = 4 then ((keystoneref3_text.f k x0 x202003 3).bind fun t203 => (some t203)) else (if x6 = 5 then (keystoneref3_Wrong.j2 k x0 x6 (x6 == 5) x202000 x202001 x202002 x202003 x202004 x202005) else (keystoneref3_Wrong.j2 k x0 x6 (x6 == 6) x202000 x202001 x202002 x202003 x202004 x202005)))))
def keystoneref3_Wrong.j2 : Nat → List (S50) → Int → Bool → Int → ByteArray → Int → Int → Int → Int → Option (Int)
  | 0, _, _, _, _, _, _, _, _, _ => none
  | k + 1, x0, x6, x80, x202000, x202001, x202002, x202003, x202004, x202005 => if x80 = true then ((keystoneref3_is.f x0 x202003 3).bind fun t204 => (if t204 = true then (if x6 = 6 then (keystoneref3_Wrong.j3 k x0 2 4 x202000 x202001 x202002 x202003 x202004 x202005) else (keystoneref3_Wrong.j3 k x0 1 3 x202000 x202001 x202002 x202003 x202004 x202005)) else (some 16))) else (some 0)
def keystoneref3_Wrong.j3 : Nat → List (S50) → Int → Int → Int → ByteArray → Int → Int → Int → Int → Option (Int)
  | 0, _, _, _, _, _, _, _, _, _ => none
  | k + 1, x0, x7, x8, x202000, x202001, x202002, x202003, x202004, x202005 => (keystoneref3_text.f k x0 x202004 x7).bind fun t205 => (if t205 = 0 then ((keystoneref3_text.f k x0 x202005 x8).bind fun t206 => (some t206)) else (some t205))
end
def keystoneref3_Wrong.f (k : Nat) (l0 : List (S50)) (a1 : Int) : Option (Int) := if 0 ≤ a1 then (if a1 < (l0.length : Int) then (if ((rd_T50 l0 a1).f0) < 1 then (keystoneref3_Wrong.j0 k l0 ((rd_T50 l0 a1).f0) true ((rd_T50 l0 a1).f0) ((rd_T50 l0 a1).f1) ((rd_T50 l0 a1).f2) ((rd_T50 l0 a1).f3) ((rd_T50 l0 a1).f4) ((rd_T50 l0 a1).f5)) else (keystoneref3_Wrong.j0 k l0 ((rd_T50 l0 a1).f0) (decide (((rd_T50 l0 a1).f0) > 6)) ((rd_T50 l0 a1).f0) ((rd_T50 l0 a1).f1) ((rd_T50 l0 a1).f2) ((rd_T50 l0 a1).f3) ((rd_T50 l0 a1).f4) ((rd_T50 l0 a1).f5))) else (none)) else (none)
theorem keystoneref3_Wrong.mono_l : ∀ k, (∀ y0 y1 y2 y3 y4 y5 y6 y7 y8, LeO (keystoneref3_Wrong.j0 k y0 y1 y2 y3 y4 y5 y6 y7 y8) (keystoneref3_Wrong.j0 (k + 1) y0 y1 y2 y3 y4 y5 y6 y7 y8)) ∧ (∀ y0 y1 y2 y3 y4 y5 y6 y7 y8, LeO (keystoneref3_Wrong.j1 k y0 y1 y2 y3 y4 y5 y6 y7 y8) (keystoneref3_Wrong.j1 (k + 1) y0 y1 y2 y3 y4 y5 y6 y7 y8)) ∧ (∀ y0 y1 y2 y3 y4 y5 y6 y7 y8, LeO (keystoneref3_Wrong.j2 k y0 y1 y2 y3 y4 y5 y6 y7 y8) (keystoneref3_Wrong.j2 (k + 1) y0 y1 y2 y3 y4 y5 y6 y7 y8)) ∧ (∀ y0 y1 y2 y3 y4 y5 y6 y7 y8, LeO (keystoneref3_Wrong.j3 k y0 y1 y2 y3 y4 y5 y6 y7 y8) (keystoneref3_Wrong.j3 (k + 1) y0 y1 y2 y3 y4 y5 y6 y7 y8))
  | 0 => ⟨fun _ _ _ _ _ _ _ _ _ r h => by simp [keystoneref3_Wrong.j0] at h, fun _ _ _ _ _ _ _ _ _ r h => by simp [keystoneref3_Wrong.j1] at h, fun _ _ _ _ _ _ _ _ _ r h => by simp [keystoneref3_Wrong.j2] at h, fun _ _ _ _ _ _ _ _ _ r h => by simp [keystoneref3_Wrong.j3] at h⟩
  | k + 1 => by
    obtain ⟨ih0, ih1, ih2, ih3⟩ := keystoneref3_Wrong.mono_l k
    refine ⟨?_, ?_, ?_, ?_⟩
    · intro y0 y1 y2 y3 y4 y5 y6 y7 y8
      unfold keystoneref3_Wrong.j0
      repeat' first
      | (with_reducible exact ih0 _ _ _ _ _ _ _ _ _)
      | (with_reducible exact ih1 _ _ _ _ _ _ _ _ _)
      | (with_reducible exact ih2 _ _ _ _ _ _ _ _ _)
      | (with_reducible exact ih3 _ _ _ _ _ _ _ _ _)
      | (with_reducible exact keystoneref3_text.mono _ _ _ _)
      | (with_reducible exact LeO.refl _)
      | (with_reducible exact LeO.none _)
      | (with_reducible refine LeO.ite ?_ ?_)
      | (with_reducible refine LeO.bind ?_ (fun _ => ?_))
      | exact ih0 _ _ _ _ _ _ _ _ _
      | exact ih1 _ _ _ _ _ _ _ _ _
      | exact ih2 _ _ _ _ _ _ _ _ _
      | exact ih3 _ _ _ _ _ _ _ _ _
      | exact keystoneref3_text.mono _ _ _ _
      | exact LeO.none _
      | refine LeO.ite ?_ ?_
      | refine LeO.bind ?_ (fun _ => ?_)
    · intro y0 y1 y2 y3 y4 y5 y6 y7 y8
      unfold keystoneref3_Wrong.j1
      repeat' first
      | (with_reducible exact ih0 _ _ _ _ _ _ _ _ _)
      | (with_reducible exact ih1 _ _ _ _ _ _ _ _ _)
      | (with_reducible exact ih2 _ _ _ _ _ _ _ _ _)
      | (with_reducible exact ih3 _ _ _ _ _ _ _ _ _)
      | (with_reducible exact keystoneref3_text.mono _ _ _ _)
      | (with_reducible exact LeO.refl _)
      | (with_reducible exact LeO.none _)
      | (with_reducible refine LeO.ite ?_ ?_)
      | (with_reducible refine LeO.bind ?_ (fun _ => ?_))
      | exact ih0 _ _ _ _ _ _ _ _ _
      | exact ih1 _ _ _ _ _ _ _ _ _
      | exact ih2 _ _ _ _ _ _ _ _ _
      | exact ih3 _ _ _ _ _ _ _ _ _
      | exact keystoneref3_text.mono _ _ _ _
      | exact LeO.none _
      | refine LeO.ite ?_ ?_
      | refine LeO.bind ?_ (fun _ => ?_)
    · intro y0 y1 y2 y3 y4 y5 y6 y7 y8
      unfold keystoneref3_Wrong.j2
      repeat' first
      | (with_reducible exact ih0 _ _ _ _ _ _ _ _ _)
      | (with_reducible exact ih1 _ _ _ _ _ _ _ _ _)
      | (with_reducible exact ih2 _ _ _ _ _ _ _ _ _)
      | (with_reducible exact ih3 _ _ _ _ _ _ _ _ _)
      | (with_reducible exact keystoneref3_text.mono _ _ _ _)
      | (with_reducible exact LeO.refl _)
      | (with_reducible exact LeO.none _)
      | (with_reducible refine LeO.ite ?_ ?_)
      | (with_reducible refine LeO.bind ?_ (fun _ => ?_))
      | exact ih0 _ _ _ _ _ _ _ _ _
      | exact ih1 _ _ _ _ _ _ _ _ _
      | exact ih2 _ _ _ _ _ _ _ _ _
      | exact ih3 _ _ _ _ _ _ _ _ _
      | exact keystoneref3_text.mono _ _ _ _
      | exact LeO.none _
      | refine LeO.ite ?_ ?_
      | refine LeO.bind ?_ (fun _ => ?_)
    · intro y0 y1 y2 y3 y4 y5 y6 y7 y8
      unfold keystoneref3_Wrong.j3
      repeat' first
      | (with_reducible exact ih0 _ _ _ _ _ _ _ _ _)
      | (with_reducible exact ih1 _ _ _ _ _ _ _ _ _)
      | (with_reducible exact ih2 _ _ _ _ _ _ _ _ _)
      | (with_reducible exact ih3 _ _ _ _ _ _ _ _ _)
      | (with_reducible exact keystoneref3_text.mono _ _ _ _)
      | (with_reducible exact LeO.refl _)
      | (with_reducible exact LeO.none _)
      | (with_reducible refine LeO.ite ?_ ?_)
      | (with_reducible refine LeO.bind ?_ (fun _ => ?_))
      | exact ih0 _ _ _ _ _ _ _ _ _
      | exact ih1 _ _ _ _ _ _ _ _ _
      | exact ih2 _ _ _ _ _ _ _ _ _
      | exact ih3 _ _ _ _ _ _ _ _ _
      | exact keystoneref3_text.mono _ _ _ _
      | exact LeO.none _
      | refine LeO.ite ?_ ?_
      | refine LeO.bind ?_ (fun _ => ?_)
theorem keystoneref3_Wrong.mono : ∀ a0 a1 k, LeO (keystoneref3_Wrong.f k a0 a1) (keystoneref3_Wrong.f (k + 1) a0 a1) := by
  intro a0 a1 k
  obtain ⟨ih0, ih1, ih2, ih3⟩ := keystoneref3_Wrong.mono_l k
  unfold keystoneref3_Wrong.f
  repeat' first
      | (with_reducible exact ih0 _ _ _ _ _ _ _ _ _)
      | (with_reducible exact ih1 _ _ _ _ _ _ _ _ _)
      | (with_reducible exact ih2 _ _ _ _ _ _ _ _ _)
      | (with_reducible exact ih3 _ _ _ _ _ _ _ _ _)
      | (with_reducible exact keystoneref3_text.mono _ _ _ _)
      | (with_reducible exact LeO.refl _)
      | (with_reducible exact LeO.none _)
      | (with_reducible refine LeO.ite ?_ ?_)
      | (with_reducible refine LeO.bind ?_ (fun _ => ?_))
      | exact ih0 _ _ _ _ _ _ _ _ _
      | exact ih1 _ _ _ _ _ _ _ _ _
      | exact ih2 _ _ _ _ _ _ _ _ _
      | exact ih3 _ _ _ _ _ _ _ _ _
      | exact keystoneref3_text.mono _ _ _ _
      | exact LeO.none _
      | refine LeO.ite ?_ ?_
      | refine LeO.bind ?_ (fun _ => ?_)
set_option maxHeartbeats 8000000 in
set_option maxRecDepth 100000 in
theorem keystoneref3_Wrong.calls (k : Nat) (A0 : Option Addr) (c0 : Nat) (l0 : List (S50)) (a1 : Int) (r : Int) (w : World) (hr0 : Kd.C k50 w A0 l0.length l0) (hc0 : l0.length ≤ c0) (h : keystoneref3_Wrong.f k l0 a1 = some r) :
    Calls Tryd.prog 40 #[.slice A0 l0.length c0, .int .i64 a1] w fun e w' => e = .returned (.int .i64 r) ∧ Below w.heap.size w w' := by
  have hu50 := Tryd.underlying50
  have HR0 := Aside0.mk hr0
  have HC0 := Aside0.mk hc0
  clear hr0 hc0
  have HB := Aside0.mk (Below.refl w.heap.size w)
  have H : (if 0 ≤ a1 then (if a1 < (l0.length : Int) then (if ((rd_T50 l0 a1).f0) < 1 then (keystoneref3_Wrong.j0 k l0 ((rd_T50 l0 a1).f0) true ((rd_T50 l0 a1).f0) ((rd_T50 l0 a1).f1) ((rd_T50 l0 a1).f2) ((rd_T50 l0 a1).f3) ((rd_T50 l0 a1).f4) ((rd_T50 l0 a1).f5)) else (keystoneref3_Wrong.j0 k l0 ((rd_T50 l0 a1).f0) (decide (((rd_T50 l0 a1).f0) > 6)) ((rd_T50 l0 a1).f0) ((rd_T50 l0 a1).f1) ((rd_T50 l0 a1).f2) ((rd_T50 l0 a1).f3) ((rd_T50 l0 a1).f4) ((rd_T50 l0 a1).f5))) else (none)) else (none)) = some r := h
  clear h
  by_cases c3 : 0 ≤ a1
  · rw [if_pos c3] at H
    have c3b0 : decide (0 ≤ a1) = true := decide_eq_true c3
    clear c3
    by_cases c4 : a1 < (l0.length : Int)
    · rw [if_pos c4] at H
      have c4b0 : decide (a1 < (l0.length : Int)) = true := decide_eq_true c4
      clear c4
      have HC5 := Aside0.mk H
      clear H
      have p200 : 0 ≤ (a1 : Int) := of_decide_eq_true A_
      have q200 : a1 < (l0.length : Int) := of_decide_eq_true A_
      obtain ⟨ad200, e200, hx200_0, hx200_1, hx200_2, hx200_3, hx200_4, hx200_5⟩ := at_T50 HR0.out a1 p200 q200
      cases e200
      replace p200 := eq_true p200
      replace q200 := eq_true q200
      go_enter Tryd.func40, Tryd.ntmps40
      go_upto_region 3 with (first | ((with_reducible refine d_ 5 ?_); refine X_ 5 #[.int .i64 0, .string (⟨#[]⟩ : ByteArray), .int .i64 0, .int .i64 0, .int .i64 0, .int .i64 0] 50 ?_; intro gb201 hg w6 hbox hb; have BK201 := Aside0.mk hbox; have GW201 := Aside0.mk (s_ hg); have GE201 := GW201; have HB := bs_ hb; clear hb hbox hg; obtain ⟨hcz7_0, hcz7_1, hcz7_2, hcz7_3, hcz7_4, hcz7_5, hfz7_0, hfz7_1, hfz7_2, hfz7_3, hfz7_4, hfz7_5⟩ := c6_ BK201.out))
      (try simp only [Act.put, List.setIfInBounds_toArray, List.set_cons_zero, List.set_cons_succ])
      go_cut [21] (fun v21 wc => ∃ (kq : Nat) (x21_4 : Bool), v21 = .bool x21_4 ∧ Aside0 (keystoneref3_Wrong.j0 kq l0 ((rd_T50 l0 a1).f0) x21_4 ((rd_T50 l0 a1).f0) ((rd_T50 l0 a1).f1) ((rd_T50 l0 a1).f2) ((rd_T50 l0 a1).f3) ((rd_T50 l0 a1).f4) ((rd_T50 l0 a1).f5) = some r) ∧ Aside0 (kq ≤ k) ∧ Aside0 (wc.heap[gb201]? = some (.cells #[.int .i64 ((rd_T50 l0 a1).f0), .string ((rd_T50 l0 a1).f1), .int .i64 ((rd_T50 l0 a1).f2), .int .i64 ((rd_T50 l0 a1).f3), .int .i64 ((rd_T50 l0 a1).f4), .int .i64 ((rd_T50 l0 a1).f5)] 50 (0, 0))) ∧ Aside0 (Below w.heap.size w wc))
      case first =>
        have H := HC5.out
        clear HC5
        by_cases c8 : ((rd_T50 l0 a1).f0) < 1
        · rw [if_pos c8] at H
          have c8b0 : decide (((rd_T50 l0 a1).f0) < 1) = true := decide_eq_true c8
          clear c8
          (first | rw [c8b0] | (simp only [i64_w, i32_w]; rw [c8b0]) | skip)
          have H' := Aside0.mk H
          clear H
          go_wp2
          go_meet
          case rel => exact ⟨_, (true), R_, H', ⟨by first | omega | exact Nat.le_refl _⟩, ⟨P_⟩, ⟨B_⟩⟩
        · rw [if_neg c8] at H
          have c8b0 : decide (((rd_T50 l0 a1).f0) < 1) = false := decide_eq_false c8
          clear c8
          (first | rw [c8b0] | (simp only [i64_w, i32_w]; rw [c8b0]) | skip)
          have H' := Aside0.mk H
          clear H
          go_wp2
          go_meet
          case rel => exact ⟨_, (decide (((rd_T50 l0 a1).f0) > 6)), R_, H', ⟨by first | omega | exact Nat.le_refl _⟩, ⟨P_⟩, ⟨B_⟩⟩
      case rest =>
        clear HC5
        try clear p2
        try clear q2
        try clear hx2
        try clear c3
        try clear c3b0
        try clear c4
        try clear c4b0
        try clear c8
        try clear c8b0
        try clear hcz7_0 hcz7_1 hcz7_2 hcz7_3 hcz7_4 hcz7_5 hfz7_0 hfz7_1 hfz7_2 hfz7_3 hfz7_4 hfz7_5
        try clear hx200_0
        try clear hx200_1
        try clear hx200_2
        try clear hx200_3
        try clear hx200_4
        try clear hx200_5
        try clear p200
        try clear q200
        obtain ⟨kq, x21_4, rfl, HA, HJ4, BK201, HB⟩ := hcut
        cases kq with
        | zero => exact absurd HA.out (by simp [keystoneref3_Wrong.j0])
        | succ kj4 =>
          have H := HA.out
          clear HA
          simp only [keystoneref3_Wrong.j0] at H
          by_cases c9 : x21_4 = true
          · subst c9
            have H1 : (some 3) = some r := by rw [if_pos rfl] at H; exact H
            clear H
            have H := H1
            clear H1
            obtain rfl := Option.some.inj H
            go_wp2
            go_ret
            exact ⟨E_, B_⟩
          · replace c9 := Bool.eq_false_iff.mpr c9
            subst c9
            have H1 : (if ((rd_T50 l0 a1).f0) = 1 then (if ((rd_T50 l0 a1).f0) = 2 then (if ((rd_T50 l0 a1).f0) < 3 then (if ((rd_T50 l0 a1).f3) = 0 then (if ((rd_T50 l0 a1).f0) < 5 then (if ((rd_T50 l0 a1).f4) = 0 then (keystoneref3_Wrong.j1 kj4 l0 ((rd_T50 l0 a1).f0) (((rd_T50 l0 a1).f5) != 0) ((rd_T50 l0 a1).f0) ((rd_T50 l0 a1).f1) ((rd_T50 l0 a1).f2) ((rd_T50 l0 a1).f3) ((rd_T50 l0 a1).f4) ((rd_T50 l0 a1).f5)) else (keystoneref3_Wrong.j1 kj4 l0 ((rd_T50 l0 a1).f0) true ((rd_T50 l0 a1).f0) ((rd_T50 l0 a1).f1) ((rd_T50 l0 a1).f2) ((rd_T50 l0 a1).f3) ((rd_T50 l0 a1).f4) ((rd_T50 l0 a1).f5))) else (keystoneref3_Wrong.j1 kj4 l0 ((rd_T50 l0 a1).f0) false ((rd_T50 l0 a1).f0) ((rd_T50 l0 a1).f1) ((rd_T50 l0 a1).f2) ((rd_T50 l0 a1).f3) ((rd_T50 l0 a1).f4) ((rd_T50 l0 a1).f5))) else (keystoneref3_Wrong.j1 kj4 l0 ((rd_T50 l0 a1).f0) true ((rd_T50 l0 a1).f0) ((rd_T50 l0 a1).f1) ((rd_T50 l0 a1).f2) ((rd_T50 l0 a1).f3) ((rd_T50 l0 a1).f4) ((rd_T50 l0 a1).f5))) else (if ((rd_T50 l0 a1).f0) < 5 then (if ((rd_T50 l0 a1).f4) = 0 then (keystoneref3_Wrong.j1 kj4 l0 ((rd_T50 l0 a1).f0) (((rd_T50 l0 a1).f5) != 0) ((rd_T50 l0 a1).f0) ((rd_T50 l0 a1).f1) ((rd_T50 l0 a1).f2) ((rd_T50 l0 a1).f3) ((rd_T50 l0 a1).f4) ((rd_T50 l0 a1).f5)) else (keystoneref3_Wrong.j1 kj4 l0 ((rd_T50 l0 a1).f0) true ((rd_T50 l0 a1).f0) ((rd_T50 l0 a1).f1) ((rd_T50 l0 a1).f2) ((rd_T50 l0 a1).f3) ((rd_T50 l0 a1).f4) ((rd_T50 l0 a1).f5))) else (keystoneref3_Wrong.j1 kj4 l0 ((rd_T50 l0 a1).f0) false ((rd_T50 l0 a1).f0) ((rd_T50 l0 a1).f1) ((rd_T50 l0 a1).f2) ((rd_T50 l0 a1).f3) ((rd_T50 l0 a1).f4) ((rd_T50 l0 a1).f5)))) else (if ((rd_T50 l0 a1).f2) = 0 then (if ((rd_T50 l0 a1).f0) < 3 then (if ((rd_T50 l0 a1).f3) = 0 then (if ((rd_T50 l0 a1).f0) < 5 then (if ((rd_T50 l0 a1).f4) = 0 then (keystoneref3_Wrong.j1 kj4 l0 ((rd_T50 l0 a1).f0) (((rd_T50 l0 a1).f5) != 0) ((rd_T50 l0 a1).f0) ((rd_T50 l0 a1).f1) ((rd_T50 l0 a1).f2) ((rd_T50 l0 a1).f3) ((rd_T50 l0 a1).f4) ((rd_T50 l0 a1).f5)) else (keystoneref3_Wrong.j1 kj4 l0 ((rd_T50 l0 a1).f0) true ((rd_T50 l0 a1).f0) ((rd_T50 l0 a1).f1) ((rd_T50 l0 a1).f2) ((rd_T50 l0 a1).f3) ((rd_T50 l0 a1).f4) ((rd_T50 l0 a1).f5))) else (keystoneref3_Wrong.j1 kj4 l0 ((rd_T50 l0 a1).f0) false ((rd_T50 l0 a1).f0) ((rd_T50 l0 a1).f1) ((rd_T50 l0 a1).f2) ((rd_T50 l0 a1).f3) ((rd_T50 l0 a1).f4) ((rd_T50 l0 a1).f5))) else (keystoneref3_Wrong.j1 kj4 l0 ((rd_T50 l0 a1).f0) true ((rd_T50 l0 a1).f0) ((rd_T50 l0 a1).f1) ((rd_T50 l0 a1).f2) ((rd_T50 l0 a1).f3) ((rd_T50 l0 a1).f4) ((rd_T50 l0 a1).f5))) else (if ((rd_T50 l0 a1).f0) < 5 then (if ((rd_T50 l0 a1).f4) = 0 then (keystoneref3_Wrong.j1 kj4 l0 ((rd_T50 l0 a1).f0) (((rd_T50 l0 a1).f5) != 0) ((rd_T50 l0 a1).f0) ((rd_T50 l0 a1).f1) ((rd_T50 l0 a1).f2) ((rd_T50 l0 a1).f3) ((rd_T50 l0 a1).f4) ((rd_T50 l0 a1).f5)) else (keystoneref3_Wrong.j1 kj4 l0 ((rd_T50 l0 a1).f0) true ((rd_T50 l0 a1).f0) ((rd_T50 l0 a1).f1) ((rd_T50 l0 a1).f2) ((rd_T50 l0 a1).f3) ((rd_T50 l0 a1).f4) ((rd_T50 l0 a1).f5))) else (keystoneref3_Wrong.j1 kj4 l0 ((rd_T50 l0 a1).f0) false ((rd_T50 l0 a1).f0) ((rd_T50 l0 a1).f1) ((rd_T50 l0 a1).f2) ((rd_T50 l0 a1).f3) ((rd_T50 l0 a1).f4) ((rd_T50 l0 a1).f5)))) else (keystoneref3_Wrong.j1 kj4 l0 ((rd_T50 l0 a1).f0) true ((rd_T50 l0 a1).f0) ((rd_T50 l0 a1).f1) ((rd_T50 l0 a1).f2) ((rd_T50 l0 a1).f3) ((rd_T50 l0 a1).f4) ((rd_T50 l0 a1).f5)))) else (if ((rd_T50 l0 a1).f1).toList = ([] : List UInt8) then (if ((rd_T50 l0 a1).f0) = 2 then (if ((rd_T50 l0 a1).f0) < 3 then (if ((rd_T50 l0 a1).f3) = 0 then (if ((rd_T50 l0 a1).f0) < 5 then (if ((rd_T50 l0 a1).f4) = 0 then (keystoneref3_Wrong.j1 kj4 l0 ((rd_T50 l0 a1).f0) (((rd_T50 l0 a1).f5) != 0) ((rd_T50 l0 a1).f0) ((rd_T50 l0 a1).f1) ((rd_T50 l0 a1).f2) ((rd_T50 l0 a1).f3) ((rd_T50 l0 a1).f4) ((rd_T50 l0 a1).f5)) else (keystoneref3_Wrong.j1 kj4 l0 ((rd_T50 l0 a1).f0) true ((rd_T50 l0 a1).f0) ((rd_T50 l0 a1).f1) ((rd_T50 l0 a1).f2) ((rd_T50 l0 a1).f3) ((rd_T50 l0 a1).f4) ((rd_T50 l0 a1).f5))) else (keystoneref3_Wrong.j1 kj4 l0 ((rd_T50 l0 a1).f0) false ((rd_T50 l0 a1).f0) ((rd_T50 l0 a1).f1) ((rd_T50 l0 a1).f2) ((rd_T50 l0 a1).f3) ((rd_T50 l0 a1).f4) ((rd_T50 l0 a1).f5))) else (keystoneref3_Wrong.j1 kj4 l0 ((rd_T50 l0 a1).f0) true ((rd_T50 l0 a1).f0) ((rd_T50 l0 a1).f1) ((rd_T50 l0 a1).f2) ((rd_T50 l0 a1).f3) ((rd_T50 l0 a1).f4) ((rd_T50 l0 a1).f5))) else (if ((rd_T50 l0 a1).f0) < 5 then (if ((rd_T50 l0 a1).f4) = 0 then (keystoneref3_Wrong.j1 kj4 l0 ((rd_T50 l0 a1).f0) (((rd_T50 l0 a1).f5) != 0) ((rd_T50 l0 a1).f0) ((rd_T50 l0 a1).f1) ((rd_T50 l0 a1).f2) ((rd_T50 l0 a1).f3) ((rd_T50 l0 a1).f4) ((rd_T50 l0 a1).f5)) else (keystoneref3_Wrong.j1 kj4 l0 ((rd_T50 l0 a1).f0) true ((rd_T50 l0 a1).f0) ((rd_T50 l0 a1).f1) ((rd_T50 l0 a1).f2) ((rd_T50 l0 a1).f3) ((rd_T50 l0 a1).f4) ((rd_T50 l0 a1).f5))) else (keystoneref3_Wrong.j1 kj4 l0 ((rd_T50 l0 a1).f0) false ((rd_T50 l0 a1).f0) ((rd_T50 l0 a1).f1) ((rd_T50 l0 a1).f2) ((rd_T50 l0 a1).f3) ((rd_T50 l0 a1).f4) ((rd_T50 l0 a1).f5)))) else (if ((rd_T50 l0 a1).f2) = 0 then (if ((rd_T50 l0 a1).f0) < 3 then (if ((rd_T50 l0 a1).f3) = 0 then (if ((rd_T50 l0 a1).f0) < 5 then (if ((rd_T50 l0 a1).f4) = 0 then (keystoneref3_Wrong.j1 kj4 l0 ((rd_T50 l0 a1).f0) (((rd_T50 l0 a1).f5) != 0) ((rd_T50 l0 a1).f0) ((rd_T50 l0 a1).f1) ((rd_T50 l0 a1).f2) ((rd_T50 l0 a1).f3) ((rd_T50 l0 a1).f4) ((rd_T50 l0 a1).f5)) else (keystoneref3_Wrong.j1 kj4 l0 ((rd_T50 l0 a1).f0) true ((rd_T50 l0 a1).f0) ((rd_T50 l0 a1).f1) ((rd_T50 l0 a1).f2) ((rd_T50 l0 a1).f3) ((rd_T50 l0 a1).f4) ((rd_T50 l0 a1).f5))) else (keystoneref3_Wrong.j1 kj4 l0 ((rd_T50 l0 a1).f0) false ((rd_T50 l0 a1).f0) ((rd_T50 l0 a1).f1) ((rd_T50 l0 a1).f2) ((rd_T50 l0 a1).f3) ((rd_T50 l0 a1).f4) ((rd_T50 l0 a1).f5))) else (keystoneref3_Wrong.j1 kj4 l0 ((rd_T50 l0 a1).f0) true ((rd_T50 l0 a1).f0) ((rd_T50 l0 a1).f1) ((rd_T50 l0 a1).f2) ((rd_T50 l0 a1).f3) ((rd_T50 l0 a1).f4) ((rd_T50 l0 a1).f5))) else (if ((rd_T50 l0 a1).f0) < 5 then (if ((rd_T50 l0 a1).f4) = 0 then (keystoneref3_Wrong.j1 kj4 l0 ((rd_T50 l0 a1).f0) (((rd_T50 l0 a1).f5) != 0) ((rd_T50 l0 a1).f0) ((rd_T50 l0 a1).f1) ((rd_T50 l0 a1).f2) ((rd_T50 l0 a1).f3) ((rd_T50 l0 a1).f4) ((rd_T50 l0 a1).f5)) else (keystoneref3_Wrong.j1 kj4 l0 ((rd_T50 l0 a1).f0) true ((rd_T50 l0 a1).f0) ((rd_T50 l0 a1).f1) ((rd_T50 l0 a1).f2) ((rd_T50 l0 a1).f3) ((rd_T50 l0 a1).f4) ((rd_T50 l0 a1).f5))) else (keystoneref3_Wrong.j1 kj4 l0 ((rd_T50 l0 a1).f0) false ((rd_T50 l0 a1).f0) ((rd_T50 l0 a1).f1) ((rd_T50 l0 a1).f2) ((rd_T50 l0 a1).f3) ((rd_T50 l0 a1).f4) ((rd_T50 l0 a1).f5)))) else (keystoneref3_Wrong.j1 kj4 l0 ((rd_T50 l0 a1).f0) true ((rd_T50 l0 a1).f0) ((rd_T50 l0 a1).f1) ((rd_T50 l0 a1).f2) ((rd_T50 l0 a1).f3) ((rd_T50 l0 a1).f4) ((rd_T50 l0 a1).f5)))) else (keystoneref3_Wrong.j1 kj4 l0 ((rd_T50 l0 a1).f0) true ((rd_T50 l0 a1).f0) ((rd_T50 l0 a1).f1) ((rd_T50 l0 a1).f2) ((rd_T50 l0 a1).f3) ((rd_T50 l0 a1).f4) ((rd_T50 l0 a1).f5)))) = some r := by rw [if_neg (show ¬ (false = true) by decide)] at H; exact H
            clear H
            have H := H1
            clear H1
            have HC10 := Aside0.mk H
            clear H
            go_upto_region 5 with (fail)
            go_cut [60] (fun v60 wc => ∃ (kq : Nat) (x60_9 : Bool), v60 = .bool x60_9 ∧ Aside0 (keystoneref3_Wrong.j1 kq l0 ((rd_T50 l0 a1).f0) x60_9 ((rd_T50 l0 a1).f0) ((rd_T50 l0 a1).f1) ((rd_T50 l0 a1).f2) ((rd_T50 l0 a1).f3) ((rd_T50 l0 a1).f4) ((rd_T50 l0 a1).f5) = some r) ∧ Aside0 (kq ≤ kj4) ∧ Aside0 (wc.heap[gb201]? = some (.cells #[.int .i64 ((rd_T50 l0 a1).f0), .string ((rd_T50 l0 a1).f1), .int .i64 ((rd_T50 l0 a1).f2), .int .i64 ((rd_T50 l0 a1).f3), .int .i64 ((rd_T50 l0 a1).f4), .int .i64 ((rd_T50 l0 a1).f5)] 50 (0, 0))) ∧ Aside0 (Below w.heap.size w wc))
            case first =>
              have H := HC10.out
              clear HC10
              by_cases c11 : ((rd_T50 l0 a1).f0) = 1
              · rw [if_pos c11] at H
                have c11b0 : (((rd_T50 l0 a1).f0) == 1) = true := beq_iff_eq.mpr c11
                have c11b1 : (((rd_T50 l0 a1).f0) != 1) = false := bne_eq_false_iff_eq.mpr c11
                clear c11
                (first | rw [c11b0] | (simp only [i64_w, i32_w]; rw [c11b0]) | skip)
                by_cases c12 : ((rd_T50 l0 a1).f0) = 2
                · rw [if_pos c12] at H
                  have c12b0 : (((rd_T50 l0 a1).f0) == 2) = true := beq_iff_eq.mpr c12
                  have c12b1 : (((rd_T50 l0 a1).f0) != 2) = false := bne_eq_false_iff_eq.mpr c12
                  clear c12
                  by_cases c13 : ((rd_T50 l0 a1).f0) < 3
                  · rw [if_pos c13] at H
                    have c13b0 : decide (((rd_T50 l0 a1).f0) < 3) = true := decide_eq_true c13
                    clear c13
                    by_cases c14 : ((rd_T50 l0 a1).f3) = 0
                    · rw [if_pos c14] at H
                      have c14b0 : (((rd_T50 l0 a1).f3) == 0) = true := beq_iff_eq.mpr c14
                      have c14b1 : (((rd_T50 l0 a1).f3) != 0) = false := bne_eq_false_iff_eq.mpr c14
                      clear c14
                      by_cases c15 : ((rd_T50 l0 a1).f0) < 5
                      · rw [if_pos c15] at H
                        have c15b0 : decide (((rd_T50 l0 a1).f0) < 5) = true := decide_eq_true c15
                        clear c15
                        by_cases c16 : ((rd_T50 l0 a1).f4) = 0
                        · rw [if_pos c16] at H
                          have c16b0 : (((rd_T50 l0 a1).f4) == 0) = true := beq_iff_eq.mpr c16
                          have c16b1 : (((rd_T50 l0 a1).f4) != 0) = false := bne_eq_false_iff_eq.mpr c16
                          clear c16
                          have H' := Aside0.mk H
                          clear H
                          obtain ⟨hcz17_0, hcz17_1, hcz17_2, hcz17_3, hcz17_4, hcz17_5, hfz17_0, hfz17_1, hfz17_2, hfz17_3, hfz17_4, hfz17_5⟩ := c6_ BK201.out
                          go_wp2
                          go_meet
                          case rel => exact ⟨_, ((((rd_T50 l0 a1).f5) != 0)), R_, H', ⟨by have := HJ4.out; first | omega | exact Nat.le_refl _⟩, ⟨M_⟩, ⟨B_⟩⟩
                        · rw [if_neg c16] at H
                          have c16b0 : (((rd_T50 l0 a1).f4) == 0) = false := beq_eq_false_iff_ne.mpr c16
                          have c16b1 : (((rd_T50 l0 a1).f4) != 0) = true := bne_iff_ne.mpr c16
                          have H' := Aside0.mk H
                          clear H
                          obtain ⟨hcz18_0, hcz18_1, hcz18_2, hcz18_3, hcz18_4, hcz18_5, hfz18_0, hfz18_1, hfz18_2, hfz18_3, hfz18_4, hfz18_5⟩ := c6_ BK201.out
                          go_wp2
                          go_meet
                          case rel => exact ⟨_, (true), R_, H', ⟨by have := HJ4.out; first | omega | exact Nat.le_refl _⟩, ⟨M_⟩, ⟨B_⟩⟩
                      · rw [if_neg c15] at H
                        have c15b0 : decide (((rd_T50 l0 a1).f0) < 5) = false := decide_eq_false c15
                        clear c15
                        have H' := Aside0.mk H
                        clear H
                        obtain ⟨hcz19_0, hcz19_1, hcz19_2, hcz19_3, hcz19_4, hcz19_5, hfz19_0, hfz19_1, hfz19_2, hfz19_3, hfz19_4, hfz19_5⟩ := c6_ BK201.out
                        go_wp2
                        go_meet
                        case rel => exact ⟨_, (false), R_, H', ⟨by have := HJ4.out; first | omega | exact Nat.le_refl _⟩, ⟨M_⟩, ⟨B_⟩⟩
                    · rw [if_neg c14] at H
                      have c14b0 : (((rd_T50 l0 a1).f3) == 0) = false := beq_eq_false_iff_ne.mpr c14
                      have c14b1 : (((rd_T50 l0 a1).f3) != 0) = true := bne_iff_ne.mpr c14
                      have H' := Aside0.mk H
                      clear H
                      obtain ⟨hcz20_0, hcz20_1, hcz20_2, hcz20_3, hcz20_4, hcz20_5, hfz20_0, hfz20_1, hfz20_2, hfz20_3, hfz20_4, hfz20_5⟩ := c6_ BK201.out
                      go_wp2
                      go_meet
                      case rel => exact ⟨_, (true), R_, H', ⟨by have := HJ4.out; first | omega | exact Nat.le_refl _⟩, ⟨M_⟩, ⟨B_⟩⟩
                  · rw [if_neg c13] at H
                    have c13b0 : decide (((rd_T50 l0 a1).f0) < 3) = false := decide_eq_false c13
                    clear c13
                    by_cases c21 : ((rd_T50 l0 a1).f0) < 5
                    · rw [if_pos c21] at H
                      have c21b0 : decide (((rd_T50 l0 a1).f0) < 5) = true := decide_eq_true c21
                      clear c21
                      by_cases c22 : ((rd_T50 l0 a1).f4) = 0
                      · rw [if_pos c22] at H
                        have c22b0 : (((rd_T50 l0 a1).f4) == 0) = true := beq_iff_eq.mpr c22
                        have c22b1 : (((rd_T50 l0 a1).f4) != 0) = false := bne_eq_false_iff_eq.mpr c22
                        clear c22
                        have H' := Aside0.mk H
                        clear H
                        obtain ⟨hcz23_0, hcz23_1, hcz23_2, hcz23_3, hcz23_4, hcz23_5, hfz23_0, hfz23_1, hfz23_2, hfz23_3, hfz23_4, hfz23_5⟩ := c6_ BK201.out
                        go_wp2
                        go_meet
                        case rel => exact ⟨_, ((((rd_T50 l0 a1).f5) != 0)), R_, H', ⟨by have := HJ4.out; first | omega | exact Nat.le_refl _⟩, ⟨M_⟩, ⟨B_⟩⟩
                      · rw [if_neg c22] at H
                        have c22b0 : (((rd_T50 l0 a1).f4) == 0) = false := beq_eq_false_iff_ne.mpr c22
                        have c22b1 : (((rd_T50 l0 a1).f4) != 0) = true := bne_iff_ne.mpr c22
                        have H' := Aside0.mk H
                        clear H
                        obtain ⟨hcz24_0, hcz24_1, hcz24_2, hcz24_3, hcz24_4, hcz24_5, hfz24_0, hfz24_1, hfz24_2, hfz24_3, hfz24_4, hfz24_5⟩ := c6_ BK201.out
                        go_wp2
                        go_meet
                        case rel => exact ⟨_, (true), R_, H', ⟨by have := HJ4.out; first | omega | exact Nat.le_refl _⟩, ⟨M_⟩, ⟨B_⟩⟩
                    · rw [if_neg c21] at H
                      have c21b0 : decide (((rd_T50 l0 a1).f0) < 5) = false := decide_eq_false c21
                      clear c21
                      have H' := Aside0.mk H
                      clear H
                      go_wp2
                      go_meet
                      case rel => exact ⟨_, (false), R_, H', ⟨by have := HJ4.out; first | omega | exact Nat.le_refl _⟩, ⟨M_⟩, ⟨B_⟩⟩
                · rw [if_neg c12] at H
                  have c12b0 : (((rd_T50 l0 a1).f0) == 2) = false := beq_eq_false_iff_ne.mpr c12
                  have c12b1 : (((rd_T50 l0 a1).f0) != 2) = true := bne_iff_ne.mpr c12
                  by_cases c25 : ((rd_T50 l0 a1).f2) = 0
                  · rw [if_pos c25] at H
                    have c25b0 : (((rd_T50 l0 a1).f2) == 0) = true := beq_iff_eq.mpr c25
                    have c25b1 : (((rd_T50 l0 a1).f2) != 0) = false := bne_eq_false_iff_eq.mpr c25
                    clear c25
                    by_cases c26 : ((rd_T50 l0 a1).f0) < 3
                    · rw [if_pos c26] at H
                      have c26b0 : decide (((rd_T50 l0 a1).f0) < 3) = true := decide_eq_true c26
                      clear c26
                      by_cases c27 : ((rd_T50 l0 a1).f3) = 0
                      · rw [if_pos c27] at H
                        have c27b0 : (((rd_T50 l0 a1).f3) == 0) = true := beq_iff_eq.mpr c27
                        have c27b1 : (((rd_T50 l0 a1).f3) != 0) = false := bne_eq_false_iff_eq.mpr c27
                        clear c27
                        by_cases c28 : ((rd_T50 l0 a1).f0) < 5
                        · rw [if_pos c28] at H
                          have c28b0 : decide (((rd_T50 l0 a1).f0) < 5) = true := decide_eq_true c28
                          clear c28
                          by_cases c29 : ((rd_T50 l0 a1).f4) = 0
                          · rw [if_pos c29] at H
                            have c29b0 : (((rd_T50 l0 a1).f4) == 0) = true := beq_iff_eq.mpr c29
                            have c29b1 : (((rd_T50 l0 a1).f4) != 0) = false := bne_eq_false_iff_eq.mpr c29
                            clear c29
                            have H' := Aside0.mk H
                            clear H
                            obtain ⟨hcz30_0, hcz30_1, hcz30_2, hcz30_3, hcz30_4, hcz30_5, hfz30_0, hfz30_1, hfz30_2, hfz30_3, hfz30_4, hfz30_5⟩ := c6_ BK201.out
                            go_wp2
                            go_meet
                            case rel => exact ⟨_, ((((rd_T50 l0 a1).f5) != 0)), R_, H', ⟨by have := HJ4.out; first | omega | exact Nat.le_refl _⟩, ⟨M_⟩, ⟨B_⟩⟩
                          · rw [if_neg c29] at H
                            have c29b0 : (((rd_T50 l0 a1).f4) == 0) = false := beq_eq_false_iff_ne.mpr c29
                            have c29b1 : (((rd_T50 l0 a1).f4) != 0) = true := bne_iff_ne.mpr c29
                            have H' := Aside0.mk H
                            clear H
                            obtain ⟨hcz31_0, hcz31_1, hcz31_2, hcz31_3, hcz31_4, hcz31_5, hfz31_0, hfz31_1, hfz31_2, hfz31_3, hfz31_4, hfz31_5⟩ := c6_ BK201.out
                            go_wp2
                            go_meet
                            case rel => exact ⟨_, (true), R_, H', ⟨by have := HJ4.out; first | omega | exact Nat.le_refl _⟩, ⟨M_⟩, ⟨B_⟩⟩
                        · rw [if_neg c28] at H
                          have c28b0 : decide (((rd_T50 l0 a1).f0) < 5) = false := decide_eq_false c28
                          clear c28
                          have H' := Aside0.mk H
                          clear H
                          obtain ⟨hcz32_0, hcz32_1, hcz32_2, hcz32_3, hcz32_4, hcz32_5, hfz32_0, hfz32_1, hfz32_2, hfz32_3, hfz32_4, hfz32_5⟩ := c6_ BK201.out
                          go_wp2
                          go_meet
                          case rel => exact ⟨_, (false), R_, H', ⟨by have := HJ4.out; first | omega | exact Nat.le_refl _⟩, ⟨M_⟩, ⟨B_⟩⟩
                      · rw [if_neg c27] at H
                        have c27b0 : (((rd_T50 l0 a1).f3) == 0) = false := beq_eq_false_iff_ne.mpr c27
                        have c27b1 : (((rd_T50 l0 a1).f3) != 0) = true := bne_iff_ne.mpr c27
                        have H' := Aside0.mk H
                        clear H
                        obtain ⟨hcz33_0, hcz33_1, hcz33_2, hcz33_3, hcz33_4, hcz33_5, hfz33_0, hfz33_1, hfz33_2, hfz33_3, hfz33_4, hfz33_5⟩ := c6_ BK201.out
                        go_wp2
                        go_meet
                        case rel => exact ⟨_, (true), R_, H', ⟨by have := HJ4.out; first | omega | exact Nat.le_refl _⟩, ⟨M_⟩, ⟨B_⟩⟩
                    · rw [if_neg c26] at H
                      have c26b0 : decide (((rd_T50 l0 a1).f0) < 3) = false := decide_eq_false c26
                      clear c26
                      by_cases c34 : ((rd_T50 l0 a1).f0) < 5
                      · rw [if_pos c34] at H
                        have c34b0 : decide (((rd_T50 l0 a1).f0) < 5) = true := decide_eq_true c34
                        clear c34
                        by_cases c35 : ((rd_T50 l0 a1).f4) = 0
                        · rw [if_pos c35] at H
                          have c35b0 : (((rd_T50 l0 a1).f4) == 0) = true := beq_iff_eq.mpr c35
                          have c35b1 : (((rd_T50 l0 a1).f4) != 0) = false := bne_eq_false_iff_eq.mpr c35
                          clear c35
                          have H' := Aside0.mk H
                          clear H
                          obtain ⟨hcz36_0, hcz36_1, hcz36_2, hcz36_3, hcz36_4, hcz36_5, hfz36_0, hfz36_1, hfz36_2, hfz36_3, hfz36_4, hfz36_5⟩ := c6_ BK201.out
                          go_wp2
                          go_meet
                          case rel => exact ⟨_, ((((rd_T50 l0 a1).f5) != 0)), R_, H', ⟨by have := HJ4.out; first | omega | exact Nat.le_refl _⟩, ⟨M_⟩, ⟨B_⟩⟩
                        · rw [if_neg c35] at H
                          have c35b0 : (((rd_T50 l0 a1).f4) == 0) = false := beq_eq_false_iff_ne.mpr c35
                          have c35b1 : (((rd_T50 l0 a1).f4) != 0) = true := bne_iff_ne.mpr c35
                          have H' := Aside0.mk H
                          clear H
                          obtain ⟨hcz37_0, hcz37_1, hcz37_2, hcz37_3, hcz37_4, hcz37_5, hfz37_0, hfz37_1, hfz37_2, hfz37_3, hfz37_4, hfz37_5⟩ := c6_ BK201.out
                          go_wp2
                          go_meet
                          case rel => exact ⟨_, (true), R_, H', ⟨by have := HJ4.out; first | omega | exact Nat.le_refl _⟩, ⟨M_⟩, ⟨B_⟩⟩
                      · rw [if_neg c34] at H
                        have c34b0 : decide (((rd_T50 l0 a1).f0) < 5) = false := decide_eq_false c34
                        clear c34
                        have H' := Aside0.mk H
                        clear H
                        obtain ⟨hcz38_0, hcz38_1, hcz38_2, hcz38_3, hcz38_4, hcz38_5, hfz38_0, hfz38_1, hfz38_2, hfz38_3, hfz38_4, hfz38_5⟩ := c6_ BK201.out
                        go_wp2
                        go_meet
                        case rel => exact ⟨_, (false), R_, H', ⟨by have := HJ4.out; first | omega | exact Nat.le_refl _⟩, ⟨M_⟩, ⟨B_⟩⟩
                  · rw [if_neg c25] at H
                    have c25b0 : (((rd_T50 l0 a1).f2) == 0) = false := beq_eq_false_iff_ne.mpr c25
                    have c25b1 : (((rd_T50 l0 a1).f2) != 0) = true := bne_iff_ne.mpr c25
                    have H' := Aside0.mk H
                    clear H
                    obtain ⟨hcz39_0, hcz39_1, hcz39_2, hcz39_3, hcz39_4, hcz39_5, hfz39_0, hfz39_1, hfz39_2, hfz39_3, hfz39_4, hfz39_5⟩ := c6_ BK201.out
                    go_wp2
                    go_meet
                    case rel => exact ⟨_, (true), R_, H', ⟨by have := HJ4.out; first | omega | exact Nat.le_refl _⟩, ⟨M_⟩, ⟨B_⟩⟩
              · rw [if_neg c11] at H
                have c11b0 : (((rd_T50 l0 a1).f0) == 1) = false := beq_eq_false_iff_ne.mpr c11
                have c11b1 : (((rd_T50 l0 a1).f0) != 1) = true := bne_iff_ne.mpr c11
                (first | rw [c11b0] | (simp only [i64_w, i32_w]; rw [c11b0]) | skip)
                by_cases c40 : ((rd_T50 l0 a1).f1).toList = ([] : List UInt8)
                · rw [if_pos c40] at H
                  have c40b0 : (((rd_T50 l0 a1).f1).toList == ([] : List UInt8)) = true := beq_iff_eq.mpr c40
                  have c40b1 : (((rd_T50 l0 a1).f1).toList != ([] : List UInt8)) = false := bne_eq_false_iff_eq.mpr c40
                  clear c40
                  by_cases c41 : ((rd_T50 l0 a1).f0) = 2
                  · rw [if_pos c41] at H
                    have c41b0 : (((rd_T50 l0 a1).f0) == 2) = true := beq_iff_eq.mpr c41
                    have c41b1 : (((rd_T50 l0 a1).f0) != 2) = false := bne_eq_false_iff_eq.mpr c41
                    clear c41
                    by_cases c42 : ((rd_T50 l0 a1).f0) < 3
                    · rw [if_pos c42] at H
                      have c42b0 : decide (((rd_T50 l0 a1).f0) < 3) = true := decide_eq_true c42
                      clear c42
                      by_cases c43 : ((rd_T50 l0 a1).f3) = 0
                      · rw [if_pos c43] at H
                        have c43b0 : (((rd_T50 l0 a1).f3) == 0) = true := beq_iff_eq.mpr c43
                        have c43b1 : (((rd_T50 l0 a1).f3) != 0) = false := bne_eq_false_iff_eq.mpr c43
                        clear c43
                        by_cases c44 : ((rd_T50 l0 a1).f0) < 5
                        · rw [if_pos c44] at H
                          have c44b0 : decide (((rd_T50 l0 a1).f0) < 5) = true := decide_eq_true c44
                          clear c44
                          by_cases c45 : ((rd_T50 l0 a1).f4) = 0
                          · rw [if_pos c45] at H
                            have c45b0 : (((rd_T50 l0 a1).f4) == 0) = true := beq_iff_eq.mpr c45
                            have c45b1 : (((rd_T50 l0 a1).f4) != 0) = false := bne_eq_false_iff_eq.mpr c45
                            clear c45
                            have H' := Aside0.mk H
                            clear H
                            obtain ⟨hcz46_0, hcz46_1, hcz46_2, hcz46_3, hcz46_4, hcz46_5, hfz46_0, hfz46_1, hfz46_2, hfz46_3, hfz46_4, hfz46_5⟩ := c6_ BK201.out
                            go_wp2
                            go_meet
                            case rel => exact ⟨_, ((((rd_T50 l0 a1).f5) != 0)), R_, H', ⟨by have := HJ4.out; first | omega | exact Nat.le_refl _⟩, ⟨M_⟩, ⟨B_⟩⟩
                          · rw [if_neg c45] at H
                            have c45b0 : (((rd_T50 l0 a1).f4) == 0) = false := beq_eq_false_iff_ne.mpr c45
                            have c45b1 : (((rd_T50 l0 a1).f4) != 0) = true := bne_iff_ne.mpr c45
                            have H' := Aside0.mk H
                            clear H
                            obtain ⟨hcz47_0, hcz47_1, hcz47_2, hcz47_3, hcz47_4, hcz47_5, hfz47_0, hfz47_1, hfz47_2, hfz47_3, hfz47_4, hfz47_5⟩ := c6_ BK201.out
                            go_wp2
                            go_meet
                            case rel => exact ⟨_, (true), R_, H', ⟨by have := HJ4.out; first | omega | exact Nat.le_refl _⟩, ⟨M_⟩, ⟨B_⟩⟩
                        · rw [if_neg c44] at H
                          have c44b0 : decide (((rd_T50 l0 a1).f0) < 5) = false := decide_eq_false c44
                          clear c44
                          have H' := Aside0.mk H
                          clear H
                          obtain ⟨hcz48_0, hcz48_1, hcz48_2, hcz48_3, hcz48_4, hcz48_5, hfz48_0, hfz48_1, hfz48_2, hfz48_3, hfz48_4, hfz48_5⟩ := c6_ BK201.out
                          go_wp2
                          go_meet
                          case rel => exact ⟨_, (false), R_, H', ⟨by have := HJ4.out; first | omega | exact Nat.le_refl _⟩, ⟨M_⟩, ⟨B_⟩⟩
                      · rw [if_neg c43] at H
                        have c43b0 : (((rd_T50 l0 a1).f3) == 0) = false := beq_eq_false_iff_ne.mpr c43
                        have c43b1 : (((rd_T50 l0 a1).f3) != 0) = true := bne_iff_ne.mpr c43
                        have H' := Aside0.mk H
                        clear H
                        obtain ⟨hcz49_0, hcz49_1, hcz49_2, hcz49_3, hcz49_4, hcz49_5, hfz49_0, hfz49_1, hfz49_2, hfz49_3, hfz49_4, hfz49_5⟩ := c6_ BK201.out
                        go_wp2
                        go_meet
                        case rel => exact ⟨_, (true), R_, H', ⟨by have := HJ4.out; first | omega | exact Nat.le_refl _⟩, ⟨M_⟩, ⟨B_⟩⟩
                    · rw [if_neg c42] at H
                      have c42b0 : decide (((rd_T50 l0 a1).f0) < 3) = false := decide_eq_false c42
                      clear c42
                      by_cases c50 : ((rd_T50 l0 a1).f0) < 5
                      · rw [if_pos c50] at H
                        have c50b0 : decide (((rd_T50 l0 a1).f0) < 5) = true := decide_eq_true c50
                        clear c50
                        by_cases c51 : ((rd_T50 l0 a1).f4) = 0
                        · rw [if_pos c51] at H
                          have c51b0 : (((rd_T50 l0 a1).f4) == 0) = true := beq_iff_eq.mpr c51
                          have c51b1 : (((rd_T50 l0 a1).f4) != 0) = false := bne_eq_false_iff_eq.mpr c51
                          clear c51
                          have H' := Aside0.mk H
                          clear H
                          obtain ⟨hcz52_0, hcz52_1, hcz52_2, hcz52_3, hcz52_4, hcz52_5, hfz52_0, hfz52_1, hfz52_2, hfz52_3, hfz52_4, hfz52_5⟩ := c6_ BK201.out
                          go_wp2
                          go_meet
                          case rel => exact ⟨_, ((((rd_T50 l0 a1).f5) != 0)), R_, H', ⟨by have := HJ4.out; first | omega | exact Nat.le_refl _⟩, ⟨M_⟩, ⟨B_⟩⟩
                        · rw [if_neg c51] at H
                          have c51b0 : (((rd_T50 l0 a1).f4) == 0) = false := beq_eq_false_iff_ne.mpr c51
                          have c51b1 : (((rd_T50 l0 a1).f4) != 0) = true := bne_iff_ne.mpr c51
                          have H' := Aside0.mk H
                          clear H
                          obtain ⟨hcz53_0, hcz53_1, hcz53_2, hcz53_3, hcz53_4, hcz53_5, hfz53_0, hfz53_1, hfz53_2, hfz53_3, hfz53_4, hfz53_5⟩ := c6_ BK201.out
                          go_wp2
                          go_meet
                          case rel => exact ⟨_, (true), R_, H', ⟨by have := HJ4.out; first | omega | exact Nat.le_refl _⟩, ⟨M_⟩, ⟨B_⟩⟩
                      · rw [if_neg c50] at H
                        have c50b0 : decide (((rd_T50 l0 a1).f0) < 5) = false := decide_eq_false c50
                        clear c50
                        have H' := Aside0.mk H
                        clear H
                        obtain ⟨hcz54_0, hcz54_1, hcz54_2, hcz54_3, hcz54_4, hcz54_5, hfz54_0, hfz54_1, hfz54_2, hfz54_3, hfz54_4, hfz54_5⟩ := c6_ BK201.out
                        go_wp2
                        go_meet
                        case rel => exact ⟨_, (false), R_, H', ⟨by have := HJ4.out; first | omega | exact Nat.le_refl _⟩, ⟨M_⟩, ⟨B_⟩⟩
                  · rw [if_neg c41] at H
                    have c41b0 : (((rd_T50 l0 a1).f0) == 2) = false := beq_eq_false_iff_ne.mpr c41
                    have c41b1 : (((rd_T50 l0 a1).f0) != 2) = true := bne_iff_ne.mpr c41
                    by_cases c55 : ((rd_T50 l0 a1).f2) = 0
                    · rw [if_pos c55] at H
                      have c55b0 : (((rd_T50 l0 a1).f2) == 0) = true := beq_iff_eq.mpr c55
                      have c55b1 : (((rd_T50 l0 a1).f2) != 0) = false := bne_eq_false_iff_eq.mpr c55
                      clear c55
                      by_cases c56 : ((rd_T50 l0 a1).f0) < 3
                      · rw [if_pos c56] at H
                        have c56b0 : decide (((rd_T50 l0 a1).f0) < 3) = true := decide_eq_true c56
                        clear c56
                        by_cases c57 : ((rd_T50 l0 a1).f3) = 0
                        · rw [if_pos c57] at H
                          have c57b0 : (((rd_T50 l0 a1).f3) == 0) = true := beq_iff_eq.mpr c57
                          have c57b1 : (((rd_T50 l0 a1).f3) != 0) = false := bne_eq_false_iff_eq.mpr c57
                          clear c57
                          by_cases c58 : ((rd_T50 l0 a1).f0) < 5
                          · rw [if_pos c58] at H
                            have c58b0 : decide (((rd_T50 l0 a1).f0) < 5) = true := decide_eq_true c58
                            clear c58
                            by_cases c59 : ((rd_T50 l0 a1).f4) = 0
                            · rw [if_pos c59] at H
                              have c59b0 : (((rd_T50 l0 a1).f4) == 0) = true := beq_iff_eq.mpr c59
                              have c59b1 : (((rd_T50 l0 a1).f4) != 0) = false := bne_eq_false_iff_eq.mpr c59
                              clear c59
                              have H' := Aside0.mk H
                              clear H
                              obtain ⟨hcz60_0, hcz60_1, hcz60_2, hcz60_3, hcz60_4, hcz60_5, hfz60_0, hfz60_1, hfz60_2, hfz60_3, hfz60_4, hfz60_5⟩ := c6_ BK201.out
                              go_wp2
                              go_meet
                              case rel => exact ⟨_, ((((rd_T50 l0 a1).f5) != 0)), R_, H', ⟨by have := HJ4.out; first | omega | exact Nat.le_refl _⟩, ⟨M_⟩, ⟨B_⟩⟩
                            · rw [if_neg c59] at H
                              have c59b0 : (((rd_T50 l0 a1).f4) == 0) = false := beq_eq_false_iff_ne.mpr c59
                              have c59b1 : (((rd_T50 l0 a1).f4) != 0) = true := bne_iff_ne.mpr c59
                              have H' := Aside0.mk H
                              clear H
                              obtain ⟨hcz61_0, hcz61_1, hcz61_2, hcz61_3, hcz61_4, hcz61_5, hfz61_0, hfz61_1, hfz61_2, hfz61_3, hfz61_4, hfz61_5⟩ := c6_ BK201.out
                              go_wp2
                              go_meet
                              case rel => exact ⟨_, (true), R_, H', ⟨by have := HJ4.out; first | omega | exact Nat.le_refl _⟩, ⟨M_⟩, ⟨B_⟩⟩
                          · rw [if_neg c58] at H
                            have c58b0 : decide (((rd_T50 l0 a1).f0) < 5) = false := decide_eq_false c58
                            clear c58
                            have H' := Aside0.mk H
                            clear H
                            obtain ⟨hcz62_0, hcz62_1, hcz62_2, hcz62_3, hcz62_4, hcz62_5, hfz62_0, hfz62_1, hfz62_2, hfz62_3, hfz62_4, hfz62_5⟩ := c6_ BK201.out
                            go_wp2
                            go_meet
                            case rel => exact ⟨_, (false), R_, H', ⟨by have := HJ4.out; first | omega | exact Nat.le_refl _⟩, ⟨M_⟩, ⟨B_⟩⟩
                        · rw [if_neg c57] at H
                          have c57b0 : (((rd_T50 l0 a1).f3) == 0) = false := beq_eq_false_iff_ne.mpr c57
                          have c57b1 : (((rd_T50 l0 a1).f3) != 0) = true := bne_iff_ne.mpr c57
                          have H' := Aside0.mk H
                          clear H
                          obtain ⟨hcz63_0, hcz63_1, hcz63_2, hcz63_3, hcz63_4, hcz63_5, hfz63_0, hfz63_1, hfz63_2, hfz63_3, hfz63_4, hfz63_5⟩ := c6_ BK201.out
                          go_wp2
                          go_meet
                          case rel => exact ⟨_, (true), R_, H', ⟨by have := HJ4.out; first | omega | exact Nat.le_refl _⟩, ⟨M_⟩, ⟨B_⟩⟩
                      · rw [if_neg c56] at H
                        have c56b0 : decide (((rd_T50 l0 a1).f0) < 3) = false := decide_eq_false c56
                        clear c56
                        by_cases c64 : ((rd_T50 l0 a1).f0) < 5
                        · rw [if_pos c64] at H
                          have c64b0 : decide (((rd_T50 l0 a1).f0) < 5) = true := decide_eq_true c64
                          clear c64
                          by_cases c65 : ((rd_T50 l0 a1).f4) = 0
                          · rw [if_pos c65] at H
                            have c65b0 : (((rd_T50 l0 a1).f4) == 0) = true := beq_iff_eq.mpr c65
                            have c65b1 : (((rd_T50 l0 a1).f4) != 0) = false := bne_eq_false_iff_eq.mpr c65
                            clear c65
                            have H' := Aside0.mk H
                            clear H
                            obtain ⟨hcz66_0, hcz66_1, hcz66_2, hcz66_3, hcz66_4, hcz66_5, hfz66_0, hfz66_1, hfz66_2, hfz66_3, hfz66_4, hfz66_5⟩ := c6_ BK201.out
                            go_wp2
                            go_meet
                            case rel => exact ⟨_, ((((rd_T50 l0 a1).f5) != 0)), R_, H', ⟨by have := HJ4.out; first | omega | exact Nat.le_refl _⟩, ⟨M_⟩, ⟨B_⟩⟩
                          · rw [if_neg c65] at H
                            have c65b0 : (((rd_T50 l0 a1).f4) == 0) = false := beq_eq_false_iff_ne.mpr c65
                            have c65b1 : (((rd_T50 l0 a1).f4) != 0) = true := bne_iff_ne.mpr c65
                            have H' := Aside0.mk H
                            clear H
                            obtain ⟨hcz67_0, hcz67_1, hcz67_2, hcz67_3, hcz67_4, hcz67_5, hfz67_0, hfz67_1, hfz67_2, hfz67_3, hfz67_4, hfz67_5⟩ := c6_ BK201.out
                            go_wp2
                            go_meet
                            case rel => exact ⟨_, (true), R_, H', ⟨by have := HJ4.out; first | omega | exact Nat.le_refl _⟩, ⟨M_⟩, ⟨B_⟩⟩
                        · rw [if_neg c64] at H
                          have c64b0 : decide (((rd_T50 l0 a1).f0) < 5) = false := decide_eq_false c64
                          clear c64
                          have H' := Aside0.mk H
                          clear H
                          obtain ⟨hcz68_0, hcz68_1, hcz68_2, hcz68_3, hcz68_4, hcz68_5, hfz68_0, hfz68_1, hfz68_2, hfz68_3, hfz68_4, hfz68_5⟩ := c6_ BK201.out
                          go_wp2
                          go_meet
                          case rel => exact ⟨_, (false), R_, H', ⟨by have := HJ4.out; first | omega | exact Nat.le_refl _⟩, ⟨M_⟩, ⟨B_⟩⟩
                    · rw [if_neg c55] at H
                      have c55b0 : (((rd_T50 l0 a1).f2) == 0) = false := beq_eq_false_iff_ne.mpr c55
                      have c55b1 : (((rd_T50 l0 a1).f2) != 0) = true := bne_iff_ne.mpr c55
                      have H' := Aside0.mk H
                      clear H
                      obtain ⟨hcz69_0, hcz69_1, hcz69_2, hcz69_3, hcz69_4, hcz69_5, hfz69_0, hfz69_1, hfz69_2, hfz69_3, hfz69_4, hfz69_5⟩ := c6_ BK201.out
                      go_wp2
                      go_meet
                      case rel => exact ⟨_, (true), R_, H', ⟨by have := HJ4.out; first | omega | exact Nat.le_refl _⟩, ⟨M_⟩, ⟨B_⟩⟩
                · rw [if_neg c40] at H
                  have c40b0 : (((rd_T50 l0 a1).f1).toList == ([] : List UInt8)) = false := beq_eq_false_iff_ne.mpr c40
                  have c40b1 : (((rd_T50 l0 a1).f1).toList != ([] : List UInt8)) = true := bne_iff_ne.mpr c40
                  have H' := Aside0.mk H
                  clear H
                  obtain ⟨hcz70_0, hcz70_1, hcz70_2, hcz70_3, hcz70_4, hcz70_5, hfz70_0, hfz70_1, hfz70_2, hfz70_3, hfz70_4, hfz70_5⟩ := c6_ BK201.out
                  go_wp2
                  go_meet
                  case rel => exact ⟨_, (true), R_, H', ⟨by have := HJ4.out; first | omega | exact Nat.le_refl _⟩, ⟨M_⟩, ⟨B_⟩⟩
            case rest =>
              clear HC10
              try clear c1
              try clear c2
              try clear p2
              try clear c3
              try clear c4
              try clear c5
              try clear c6
              try clear c11
              try clear c11b0
              try clear c11b1
              try clear c12
              try clear c12b0
              try clear c12b1
              try clear c21
              try clear c21b0
              try clear c25
              try clear c25b0
              try clear c25b1
              try clear c26
              try clear c26b0
              try clear c27
              try clear c27b0
              try clear c27b1
              try clear c28
              try clear c28b0
              try clear c29
              try clear c29b0
              try clear c29b1
              try clear c34
              try clear c34b0
              try clear c35
              try clear c35b0
              try clear c35b1
              try clear c40
              try clear c40b0
              try clear c40b1
              try clear c41
              try clear c41b0
              try clear c41b1
              try clear c42
              try clear c42b0
              try clear c43
              try clear c43b0
              try clear c43b1
              try clear c44
              try clear c44b0
              try clear c45
              try clear c45b0
              try clear c45b1
              try clear c50
              try clear c50b0
              try clear c51
              try clear c51b0
              try clear c51b1
              try clear c55
              try clear c55b0
              try clear c55b1
              try clear c56
              try clear c56b0
              try clear c57
              try clear c57b0
              try clear c57b1
              try clear c58
              try clear c58b0
              try clear c59
              try clear c59b0
              try clear c59b1
              try clear c64
              try clear c64b0
              try clear c65
              try clear c65b0
              try clear c65b1
              try clear hcz30_0 hcz30_1 hcz30_2 hcz30_3 hcz30_4 hcz30_5 hfz30_0 hfz30_1 hfz30_2 hfz30_3 hfz30_4 hfz30_5
              try clear hcz31_0 hcz31_1 hcz31_2 hcz31_3 hcz31_4 hcz31_5 hfz31_0 hfz31_1 hfz31_2 hfz31_3 hfz31_4 hfz31_5
              try clear hcz32_0 hcz32_1 hcz32_2 hcz32_3 hcz32_4 hcz32_5 hfz32_0 hfz32_1 hfz32_2 hfz32_3 hfz32_4 hfz32_5
              try clear hcz33_0 hcz33_1 hcz33_2 hcz33_3 hcz33_4 hcz33_5 hfz33_0 hfz33_1 hfz33_2 hfz33_3 hfz33_4 hfz33_5
              try clear hcz36_0 hcz36_1 hcz36_2 hcz36_3 hcz36_4 hcz36_5 hfz36_0 hfz36_1 hfz36_2 hfz36_3 hfz36_4 hfz36_5
              try clear hcz37_0 hcz37_1 hcz37_2 hcz37_3 hcz37_4 hcz37_5 hfz37_0 hfz37_1 hfz37_2 hfz37_3 hfz37_4 hfz37_5
              try clear hcz38_0 hcz38_1 hcz38_2 hcz38_3 hcz38_4 hcz38_5 hfz38_0 hfz38_1 hfz38_2 hfz38_3 hfz38_4 hfz38_5
              try clear hcz39_0 hcz39_1 hcz39_2 hcz39_3 hcz39_4 hcz39_5 hfz39_0 hfz39_1 hfz39_2 hfz39_3 hfz39_4 hfz39_5
              try clear hcz46_0 hcz46_1 hcz46_2 hcz46_3 hcz46_4 hcz46_5 hfz46_0 hfz46_1 hfz46_2 hfz46_3 hfz46_4 hfz46_5
              try clear hcz47_0 hcz47_1 hcz47_2 hcz47_3 hcz47_4 hcz47_5 hfz47_0 hfz47_1 hfz47_2 hfz47_3 hfz47_4 hfz47_5
              try clear hcz48_0 hcz48_1 hcz48_2 hcz48_3 hcz48_4 hcz48_5 hfz48_0 hfz48_1 hfz48_2 hfz48_3 hfz48_4 hfz48_5
              try clear hcz49_0 hcz49_1 hcz49_2 hcz49_3 hcz49_4 hcz49_5 hfz49_0 hfz49_1 hfz49_2 hfz49_3 hfz49_4 hfz49_5
              try clear hcz52_0 hcz52_1 hcz52_2 hcz52_3 hcz52_4 hcz52_5 hfz52_0 hfz52_1 hfz52_2 hfz52_3 hfz52_4 hfz52_5
              try clear hcz53_0 hcz53_1 hcz53_2 hcz53_3 hcz53_4 hcz53_5 hfz53_0 hfz53_1 hfz53_2 hfz53_3 hfz53_4 hfz53_5
              try clear hcz54_0 hcz54_1 hcz54_2 hcz54_3 hcz54_4 hcz54_5 hfz54_0 hfz54_1 hfz54_2 hfz54_3 hfz54_4 hfz54_5
              try clear hcz60_0 hcz60_1 hcz60_2 hcz60_3 hcz60_4 hcz60_5 hfz60_0 hfz60_1 hfz60_2 hfz60_3 hfz60_4 hfz60_5
              try clear hcz61_0 hcz61_1 hcz61_2 hcz61_3 hcz61_4 hcz61_5 hfz61_0 hfz61_1 hfz61_2 hfz61_3 hfz61_4 hfz61_5
              try clear hcz62_0 hcz62_1 hcz62_2 hcz62_3 hcz62_4 hcz62_5 hfz62_0 hfz62_1 hfz62_2 hfz62_3 hfz62_4 hfz62_5
              try clear hcz63_0 hcz63_1 hcz63_2 hcz63_3 hcz63_4 hcz63_5 hfz63_0 hfz63_1 hfz63_2 hfz63_3 hfz63_4 hfz63_5
              try clear hcz66_0 hcz66_1 hcz66_2 hcz66_3 hcz66_4 hcz66_5 hfz66_0 hfz66_1 hfz66_2 hfz66_3 hfz66_4 hfz66_5
              try clear hcz67_0 hcz67_1 hcz67_2 hcz67_3 hcz67_4 hcz67_5 hfz67_0 hfz67_1 hfz67_2 hfz67_3 hfz67_4 hfz67_5
              try clear hcz68_0 hcz68_1 hcz68_2 hcz68_3 hcz68_4 hcz68_5 hfz68_0 hfz68_1 hfz68_2 hfz68_3 hfz68_4 hfz68_5
              try clear hcz69_0 hcz69_1 hcz69_2 hcz69_3 hcz69_4 hcz69_5 hfz69_0 hfz69_1 hfz69_2 hfz69_3 hfz69_4 hfz69_5
              try clear hcz70_0 hcz70_1 hcz70_2 hcz70_3 hcz70_4 hcz70_5 hfz70_0 hfz70_1 hfz70_2 hfz70_3 hfz70_4 hfz70_5
              try clear hfz24_1 hfz24_2 hfz24_3 hfz24_4 hfz24_5
              obtain ⟨kq, x60_9, rfl, HA, HJ9, BK201, HB⟩ := hcut
              cases kq with
              | zero => exact absurd HA.out (by simp [keystoneref3_Wrong.j1])
              | succ kj9 =>
                have H := HA.out
                clear HA
                simp only [keystoneref3_Wrong.j1] at H
                by_cases c71 : x60_9 = true
                · subst c71
                  have H1 : (some 1) = some r := by rw [if_pos rfl] at H; exact H
                  clear H
                  have H := H1
                  clear H1
                  obtain rfl := Option.some.inj H
                  go_wp2
                  go_ret
                  exact ⟨E_, B_⟩
                · replace c71 := Bool.eq_false_iff.mpr c71
                  subst c71
                  have H1 : (if ((rd_T50 l0 a1).f0) = 1 then (if (((rd_T50 l0 a1).f1).size : Int) > 255 then (some 5) else (some 0)) else (if ((rd_T50 l0 a1).f0) = 3 then ((keystoneref3_text.f kj9 l0 ((rd_T50 l0 a1).f3) 1).bind fun t202 => (some t202)) else (if ((rd_T50 l0 a1).f0) = 4 then ((keystoneref3_text.f kj9 l0 ((rd_T50 l0 a1).f3) 3).bind fun t203 => (some t203)) else (if ((rd_T50 l0 a1).f0) = 5 then (keystoneref3_Wrong.j2 kj9 l0 ((rd_T50 l0 a1).f0) (((rd_T50 l0 a1).f0) == 5) ((rd_T50 l0 a1).f0) ((rd_T50 l0 a1).f1) ((rd_T50 l0 a1).f2) ((rd_T50 l0 a1).f3) ((rd_T50 l0 a1).f4) ((rd_T50 l0 a1).f5)) else (keystoneref3_Wrong.j2 kj9 l0 ((rd_T50 l0 a1).f0) (((rd_T50 l0 a1).f0) == 6) ((rd_T50 l0 a1).f0) ((rd_T50 l0 a1).f1) ((rd_T50 l0 a1).f2) ((rd_T50 l0 a1).f3) ((rd_T50 l0 a1).f4) ((rd_T50 l0 a1).f5)))))) = some r := by rw [if_neg (show ¬ (false = true) by decide)] at H; exact H
                  clear H
                  have H := H1
                  clear H1
                  by_cases c72 : ((rd_T50 l0 a1).f0) = 1
                  · rw [if_pos c72] at H
                    have c72b0 : (((rd_T50 l0 a1).f0) == 1) = true := beq_iff_eq.mpr c72
                    have c72b1 : (((rd_T50 l0 a1).f0) != 1) = false := bne_eq_false_iff_eq.mpr c72
                    clear c72
                    by_cases c73 : (((rd_T50 l0 a1).f1).size : Int) > 255
                    · rw [if_pos c73] at H
                      have c73b0 : decide (255 < (((rd_T50 l0 a1).f1).size : Int)) = true := decide_eq_true c73
                      have c73b1 : decide (255 < ((rd_T50 l0 a1).f1).size) = true := decide_eq_true (by omega)
                      clear c73
                      obtain rfl := Option.some.inj H
                      obtain ⟨hcz74_0, hcz74_1, hcz74_2, hcz74_3, hcz74_4, hcz74_5, hfz74_0, hfz74_1, hfz74_2, hfz74_3, hfz74_4, hfz74_5⟩ := c6_ BK201.out
                      go_wp2
                      go_ret
                      exact ⟨E_, B_⟩
                    · rw [if_neg c73] at H
                      have c73b0 : decide (255 < (((rd_T50 l0 a1).f1).size : Int)) = false := decide_eq_false c73
                      have c73b1 : decide (255 < ((rd_T50 l0 a1).f1).size) = false := decide_eq_false (by omega)
                      clear c73
                      obtain rfl := Option.some.inj H
                      obtain ⟨hcz75_0, hcz75_1, hcz75_2, hcz75_3, hcz75_4, hcz75_5, hfz75_0, hfz75_1, hfz75_2, hfz75_3, hfz75_4, hfz75_5⟩ := c6_ BK201.out
                      go_wp2
                      go_ret
                      exact ⟨E_, B_⟩
                  · rw [if_neg c72] at H
                    have c72b0 : (((rd_T50 l0 a1).f0) == 1) = false := beq_eq_false_iff_ne.mpr c72
                    have c72b1 : (((rd_T50 l0 a1).f0) != 1) = true := bne_iff_ne.mpr c72
                    by_cases c76 : ((rd_T50 l0 a1).f0) = 3
                    · rw [if_pos c76] at H
                      have c76b0 : (((rd_T50 l0 a1).f0) == 3) = true := beq_iff_eq.mpr c76
                      have c76b1 : (((rd_T50 l0 a1).f0) != 3) = false := bne_eq_false_iff_eq.mpr c76
                      clear c76
                      replace H := Option.bind_eq_some_iff.mp H
                      obtain ⟨t202, A770, H⟩ := H
                      replace H : (some t202) = some r := H
                      have A77 := Aside0.mk A770
                      clear A770
                      obtain rfl := Option.some.inj H
                      obtain ⟨hcz78_0, hcz78_1, hcz78_2, hcz78_3, hcz78_4, hcz78_5, hfz78_0, hfz78_1, hfz78_2, hfz78_3, hfz78_4, hfz78_5⟩ := c6_ BK201.out
                      go_wp2_with (first | ((with_reducible refine gt_ 78 ?_); refine gd_ 73 Tryd.func78 (keystoneref3_text.calls kj9 _ _ l0 ((rd_T50 l0 a1).f3) 1 t202 _ (Y_ (Kd.C_below HR0.out HB.out)) HC0.out A77.out) ?_; intro w79 hb; have BK201 := kb_ BK201 hb; have HB := bs_ hb; (try clear hb); (try clear hb2); (try clear hk); (try clear hi)))
                      go_ret
                      exact ⟨E_, B_⟩
                    · rw [if_neg c76] at H
                      have c76b0 : (((rd_T50 l0 a1).f0) == 3) = false := beq_eq_false_iff_ne.mpr c76
                      have c76b1 : (((rd_T50 l0 a1).f0) != 3) = true := bne_iff_ne.mpr c76
                      by_cases c80 : ((rd_T50 l0 a1).f0) = 4
                      · rw [if_pos c80] at H
                        have c80b0 : (((rd_T50 l0 a1).f0) == 4) = true := beq_iff_eq.mpr c80
                        have c80b1 : (((rd_T50 l0 a1).f0) != 4) = false := bne_eq_false_iff_eq.mpr c80
                        clear c80
                        replace H := Option.bind_eq_some_iff.mp H
                        obtain ⟨t203, A810, H⟩ := H
                        replace H : (some t203) = some r := H
                        have A81 := Aside0.mk A810
                        clear A810
                        obtain rfl := Option.some.inj H
                        obtain ⟨hcz82_0, hcz82_1, hcz82_2, hcz82_3, hcz82_4, hcz82_5, hfz82_0, hfz82_1, hfz82_2, hfz82_3, hfz82_4, hfz82_5⟩ := c6_ BK201.out
                        go_wp2_with (first | ((with_reducible refine gt_ 78 ?_); refine gd_ 79 Tryd.func78 (keystoneref3_text.calls kj9 _ _ l0 ((rd_T50 l0 a1).f3) 3 t203 _ (Y_ (Kd.C_below HR0.out HB.out)) HC0.out A81.out) ?_; intro w83 hb; have BK201 := kb_ BK201 hb; have HB := bs_ hb; (try clear hb); (try clear hb2); (try clear hk); (try clear hi)))
                        go_ret
                        exact ⟨E_, B_⟩
                      · rw [if_neg c80] at H
                        have c80b0 : (((rd_T50 l0 a1).f0) == 4) = false := beq_eq_false_iff_ne.mpr c80
                        have c80b1 : (((rd_T50 l0 a1).f0) != 4) = true := bne_iff_ne.mpr c80
                        have HC84 := Aside0.mk H
                        clear H
                        go_upto_if 80 with (fail)
                        go_cut [80] (fun v80 wc => ∃ (kq : Nat) (x80_83 : Bool), v80 = .bool x80_83 ∧ Aside0 (keystoneref3_Wrong.j2 kq l0 ((rd_T50 l0 a1).f0) x80_83 ((rd_T50 l0 a1).f0) ((rd_T50 l0 a1).f1) ((rd_T50 l0 a1).f2) ((rd_T50 l0 a1).f3) ((rd_T50 l0 a1).f4) ((rd_T50 l0 a1).f5) = some r) ∧ Aside0 (kq ≤ kj9) ∧ Aside0 (wc.heap[gb201]? = some (.cells #[.int .i64 ((rd_T50 l0 a1).f0), .string ((rd_T50 l0 a1).f1), .int .i64 ((rd_T50 l0 a1).f2), .int .i64 ((rd_T50 l0 a1).f3), .int .i64 ((rd_T50 l0 a1).f4), .int .i64 ((rd_T50 l0 a1).f5)] 50 (0, 0))) ∧ Aside0 (Below w.heap.size w wc))
                        case first =>
                          have H := HC84.out
                          clear HC84
                          by_cases c85 : ((rd_T50 l0 a1).f0) = 5
                          · rw [if_pos c85] at H
                            have c85b0 : (((rd_T50 l0 a1).f0) == 5) = true := beq_iff_eq.mpr c85
                            have c85b1 : (((rd_T50 l0 a1).f0) != 5) = false := bne_eq_false_iff_eq.mpr c85
                            clear c85
                            (first | rw [c85b0] | (simp only [i64_w, i32_w]; rw [c85b0]) | skip)
                            have H' := Aside0.mk H
                            clear H
                            go_wp2
                            go_meet
                            case rel => exact ⟨_, ((((rd_T50 l0 a1).f0) == 5)), R_, H', ⟨by have := HJ4.out; have := HJ9.out; first | omega | exact Nat.le_refl _⟩, ⟨M_⟩, ⟨B_⟩⟩
                          · rw [if_neg c85] at H
                            have c85b0 : (((rd_T50 l0 a1).f0) == 5) = false := beq_eq_false_iff_ne.mpr c85
                            have c85b1 : (((rd_T50 l0 a1).f0) != 5) = true := bne_iff_ne.mpr c85
                            (first | rw [c85b0] | (simp only [i64_w, i32_w]; rw [c85b0]) | skip)
                            have H' := Aside0.mk H
                            clear H
                            go_wp2
                            go_meet
                            case rel => exact ⟨_, ((((rd_T50 l0 a1).f0) == 6)), R_, H', ⟨by have := HJ4.out; have := HJ9.out; first | omega | exact Nat.le_refl _⟩, ⟨M_⟩, ⟨B_⟩⟩
                        case rest =>
                          clear HC84
                          try clear c1
                          try clear c2
                          try clear p2
                          try clear c3
                          try clear c4
                          try clear c5
                          try clear c6
                          try clear c7
                          try clear c8
                          try clear c11
                          try clear c11b0
                          try clear c11b1
                          try clear c12
                          try clear c12b0
                          try clear c12b1
                          try clear c21
                          try clear c21b0
                          try clear c25
                          try clear c25b0
                          try clear c25b1
                          try clear c26
                          try clear c26b0
                          try clear c27
                          try clear c27b0
                          try clear c27b1
                          try clear c28
                          try clear c28b0
                          try clear c29
                          try clear c29b0
                          try clear c29b1
                          try clear c34
                          try clear c34b0
                          try clear c35
                          try clear c35b0
                          try clear c35b1
                          try clear c40
                          try clear c40b0
                          try clear c40b1
                          try clear c41
                          try clear c41b0
                          try clear c41b1
                          try clear c42
                          try clear c42b0
                          try clear c43
                          try clear c43b0
                          try clear c43b1
                          try clear c44
                          try clear c44b0
                          try clear c45
                          try clear c45b0
                          try clear c45b1
                          try clear c50
                          try clear c50b0
                          try clear c51
                          try clear c51b0
                          try clear c51b1
                          try clear c55
                          try clear c55b0
                          try clear c55b1
                          try clear c56
                          try clear c56b0
                          try clear c57
                          try clear c57b0
                          try clear c57b1
                          try clear c58
                          try clear c58b0
                          try clear c59
                          try clear c59b0
                          try clear c59b1
                          try clear c64
                          try clear c64b0
                          try clear c65
                          try clear c65b0
                          try clear c65b1
                          try clear c71
                          try clear c72
                          try clear c72b0
                          try clear c72b1
                          try clear c73
                          try clear c73b0
                          try clear c73b1
                          try clear c76
                          try clear c76b0
                          try clear c76b1
                          try clear c78
                          try clear c80
                          try clear c80b0
                          try clear c80b1
                          try clear c85
                          try clear c85b0
                          try clear c85b1
                          try clear hcz30_0 hcz30_1 hcz30_2 hcz30_3 hcz30_4 hcz30_5 hfz30_0 hfz30_1 hfz30_2 hfz30_3 hfz30_4 hfz30_5
                          try clear hcz31_0 hcz31_1 hcz31_2 hcz31_3 hcz31_4 hcz31_5 hfz31_0 hfz31_1 hfz31_2 hfz31_3 hfz31_4 hfz31_5
                          try clear hcz32_0 hcz32_1 hcz32_2 hcz32_3 hcz32_4 hcz32_5 hfz32_0 hfz32_1 hfz32_2 hfz32_3 hfz32_4 hfz32_5
                          try clear hcz33_0 hcz33_1 hcz33_2 hcz33_3 hcz33_4 hcz33_5 hfz33_0 hfz33_1 hfz33_2 hfz33_3 hfz33_4 hfz33_5
                          try clear hcz36_0 hcz36_1 hcz36_2 hcz36_3 hcz36_4 hcz36_5 hfz36_0 hfz36_1 hfz36_2 hfz36_3 hfz36_4 hfz36_5
                          try clear hcz37_0 hcz37_1 hcz37_2 hcz37_3 hcz37_4 hcz37_5 hfz37_0 hfz37_1 hfz37_2 hfz37_3 hfz37_4 hfz37_5
                          try clear hcz38_0 hcz38_1 hcz38_2 hcz38_3 hcz38_4 hcz38_5 hfz38_0 hfz38_1 hfz38_2 hfz38_3 hfz38_4 hfz38_5
                          try clear hcz39_0 hcz39_1 hcz39_2 hcz39_3 hcz39_4 hcz39_5 hfz39_0 hfz39_1 hfz39_2 hfz39_3 hfz39_4 hfz39_5
                          try clear hcz46_0 hcz46_1 hcz46_2 hcz46_3 hcz46_4 hcz46_5 hfz46_0 hfz46_1 hfz46_2 hfz46_3 hfz46_4 hfz46_5
                          try clear hcz47_0 hcz47_1 hcz47_2 hcz47_3 hcz47_4 hcz47_5 hfz47_0 hfz47_1 hfz47_2 hfz47_3 hfz47_4 hfz47_5
                          try clear hcz48_0 hcz48_1 hcz48_2 hcz48_3 hcz48_4 hcz48_5 hfz48_0 hfz48_1 hfz48_2 hfz48_3 hfz48_4 hfz48_5
                          try clear hcz49_0 hcz49_1 hcz49_2 hcz49_3 hcz49_4 hcz49_5 hfz49_0 hfz49_1 hfz49_2 hfz49_3 hfz49_4 hfz49_5
                          try clear hcz52_0 hcz52_1 hcz52_2 hcz52_3 hcz52_4 hcz52_5 hfz52_0 hfz52_1 hfz52_2 hfz52_3 hfz52_4 hfz52_5
                          try clear hcz53_0 hcz53_1 hcz53_2 hcz53_3 hcz53_4 hcz53_5 hfz53_0 hfz53_1 hfz53_2 hfz53_3 hfz53_4 hfz53_5
                          try clear hcz54_0 hcz54_1 hcz54_2 hcz54_3 hcz54_4 hcz54_5 hfz54_0 hfz54_1 hfz54_2 hfz54_3 hfz54_4 hfz54_5
                          try clear hcz60_0 hcz60_1 hcz60_2 hcz60_3 hcz60_4 hcz60_5 hfz60_0 hfz60_1 hfz60_2 hfz60_3 hfz60_4 hfz60_5
                          try clear hcz61_0 hcz61_1 hcz61_2 hcz61_3 hcz61_4 hcz61_5 hfz61_0 hfz61_1 hfz61_2 hfz61_3 hfz61_4 hfz61_5
                          try clear hcz62_0 hcz62_1 hcz62_2 hcz62_3 hcz62_4 hcz62_5 hfz62_0 hfz62_1 hfz62_2 hfz62_3 hfz62_4 hfz62_5
                          try clear hcz63_0 hcz63_1 hcz63_2 hcz63_3 hcz63_4 hcz63_5 hfz63_0 hfz63_1 hfz63_2 hfz63_3 hfz63_4 hfz63_5
                          try clear hcz66_0 hcz66_1 hcz66_2 hcz66_3 hcz66_4 hcz66_5 hfz66_0 hfz66_1 hfz66_2 hfz66_3 hfz66_4 hfz66_5
                          try clear hcz67_0 hcz67_1 hcz67_2 hcz67_3 hcz67_4 hcz67_5 hfz67_0 hfz67_1 hfz67_2 hfz67_3 hfz67_4 hfz67_5
                          try clear hcz68_0 hcz68_1 hcz68_2 hcz68_3 hcz68_4 hcz68_5 hfz68_0 hfz68_1 hfz68_2 hfz68_3 hfz68_4 hfz68_5
                          try clear hcz69_0 hcz69_1 hcz69_2 hcz69_3 hcz69_4 hcz69_5 hfz69_0 hfz69_1 hfz69_2 hfz69_3 hfz69_4 hfz69_5
                          try clear hcz70_0 hcz70_1 hcz70_2 hcz70_3 hcz70_4 hcz70_5 hfz70_0 hfz70_1 hfz70_2 hfz70_3 hfz70_4 hfz70_5
                          try clear hcz74_0 hcz74_1 hcz74_2 hcz74_3 hcz74_4 hcz74_5 hfz74_0 hfz74_1 hfz74_2 hfz74_3 hfz74_4 hfz74_5
                          try clear hcz75_0 hcz75_1 hcz75_2 hcz75_3 hcz75_4 hcz75_5 hfz75_0 hfz75_1 hfz75_2 hfz75_3 hfz75_4 hfz75_5
                          try clear hcz78_0 hcz78_1 hcz78_2 hcz78_3 hcz78_4 hcz78_5 hfz78_0 hfz78_1 hfz78_2 hfz78_3 hfz78_4 hfz78_5
                          try clear hcz82_0 hcz82_1 hcz82_2 hcz82_3 hcz82_4 hcz82_5 hfz82_0 hfz82_1 hfz82_2 hfz82_3 hfz82_4 hfz82_5
                          try clear hfz24_1 hfz24_2 hfz24_3 hfz24_4 hfz24_5
                          try clear p2
                          obtain ⟨kq, x80_83, rfl, HA, HJ83, BK201, HB⟩ := hcut
                          cases kq with
                          | zero => exact absurd HA.out (by simp [keystoneref3_Wrong.j2])
                          | succ kj83 =>
                            have H := HA.out
                            clear HA
                            simp only [keystoneref3_Wrong.j2] at H
                            by_cases c86 : x80_83 = true
                            · subst c86
                              have H1 : ((keystoneref3_is.f l0 ((rd_T50 l0 a1).f3) 3).bind fun t204 => (if t204 = true then (if ((rd_T50 l0 a1).f0) = 6 then (keystoneref3_Wrong.j3 kj83 l0 2 4 ((rd_T50 l0 a1).f0) ((rd_T50 l0 a1).f1) ((rd_T50 l0 a1).f2) ((rd_T50 l0 a1).f3) ((rd_T50 l0 a1).f4) ((rd_T50 l0 a1).f5)) else (keystoneref3_Wrong.j3 kj83 l0 1 3 ((rd_T50 l0 a1).f0) ((rd_T50 l0 a1).f1) ((rd_T50 l0 a1).f2) ((rd_T50 l0 a1).f3) ((rd_T50 l0 a1).f4) ((rd_T50 l0 a1).f5))) else (some 16))) = some r := by rw [if_pos rfl] at H; exact H
                              clear H
                              have H := H1
                              clear H1
                              replace H := Option.bind_eq_some_iff.mp H
                              obtain ⟨t204, A870, H⟩ := H
                              replace H : (if t204 = true then (if ((rd_T50 l0 a1).f0) = 6 then (keystoneref3_Wrong.j3 kj83 l0 2 4 ((rd_T50 l0 a1).f0) ((rd_T50 l0 a1).f1) ((rd_T50 l0 a1).f2) ((rd_T50 l0 a1).f3) ((rd_T50 l0 a1).f4) ((rd_T50 l0 a1).f5)) else (keystoneref3_Wrong.j3 kj83 l0 1 3 ((rd_T50 l0 a1).f0) ((rd_T50 l0 a1).f1) ((rd_T50 l0 a1).f2) ((rd_T50 l0 a1).f3) ((rd_T50 l0 a1).f4) ((rd_T50 l0 a1).f5))) else (some 16)) = some r := H
                              have A87 := Aside0.mk A870
                              clear A870
                              by_cases c88 : t204 = true
                              · subst c88
                                have H1 : (if ((rd_T50 l0 a1).f0) = 6 then (keystoneref3_Wrong.j3 kj83 l0 2 4 ((rd_T50 l0 a1).f0) ((rd_T50 l0 a1).f1) ((rd_T50 l0 a1).f2) ((rd_T50 l0 a1).f3) ((rd_T50 l0 a1).f4) ((rd_T50 l0 a1).f5)) else (keystoneref3_Wrong.j3 kj83 l0 1 3 ((rd_T50 l0 a1).f0) ((rd_T50 l0 a1).f1) ((rd_T50 l0 a1).f2) ((rd_T50 l0 a1).f3) ((rd_T50 l0 a1).f4) ((rd_T50 l0 a1).f5))) = some r := by rw [if_pos rfl] at H; exact H
                                clear H
                                have H := H1
                                clear H1
                                have HC89 := Aside0.mk H
                                clear H
                                obtain ⟨hcz90_0, hcz90_1, hcz90_2, hcz90_3, hcz90_4, hcz90_5, hfz90_0, hfz90_1, hfz90_2, hfz90_3, hfz90_4, hfz90_5⟩ := c6_ BK201.out
                                go_upto_if 89 with (first | ((with_reducible refine gt_ 79 ?_); refine gd_ 86 Tryd.func79 (keystoneref3_is.calls _ _ l0 ((rd_T50 l0 a1).f3) 3 true _ (Y_ (Kd.C_below HR0.out HB.out)) HC0.out A87.out) ?_; rintro w' ⟨nd, rfl⟩))
                                (try simp only [Act.put, List.setIfInBounds_toArray, List.set_cons_zero, List.set_cons_succ])
                                go_cut [7, 8] (fun v7 v8 wc => ∃ (kq : Nat) (x7_88 : Int) (x8_88 : Int), v7 = .int .i64 x7_88 ∧ v8 = .int .i64 x8_88 ∧ Aside0 (keystoneref3_Wrong.j3 kq l0 x7_88 x8_88 ((rd_T50 l0 a1).f0) ((rd_T50 l0 a1).f1) ((rd_T50 l0 a1).f2) ((rd_T50 l0 a1).f3) ((rd_T50 l0 a1).f4) ((rd_T50 l0 a1).f5) = some r) ∧ Aside0 (kq ≤ kj83) ∧ Aside0 (wc.heap[gb201]? = some (.cells #[.int .i64 ((rd_T50 l0 a1).f0), .string ((rd_T50 l0 a1).f1), .int .i64 ((rd_T50 l0 a1).f2), .int .i64 ((rd_T50 l0 a1).f3), .int .i64 ((rd_T50 l0 a1).f4), .int .i64 ((rd_T50 l0 a1).f5)] 50 (0, 0))) ∧ Aside0 (Below w.heap.size w wc))
                                case first =>
                                  have H := HC89.out
                                  clear HC89
                                  by_cases c91 : ((rd_T50 l0 a1).f0) = 6
                                  · rw [if_pos c91] at H
                                    have c91b0 : (((rd_T50 l0 a1).f0) == 6) = true := beq_iff_eq.mpr c91
                                    have c91b1 : (((rd_T50 l0 a1).f0) != 6) = false := bne_eq_false_iff_eq.mpr c91
                                    clear c91
                                    (first | rw [c91b0] | (simp only [i64_w, i32_w]; rw [c91b0]) | skip)
                                    have H' := Aside0.mk H
                                    clear H
                                    go_wp2
                                    go_meet
                                    case rel => exact ⟨_, (2), (4), R_, R_, H', ⟨by have := HJ4.out; have := HJ9.out; have := HJ83.out; first | omega | exact Nat.le_refl _⟩, ⟨M_⟩, ⟨B_⟩⟩
                                  · rw [if_neg c91] at H
                                    have c91b0 : (((rd_T50 l0 a1).f0) == 6) = false := beq_eq_false_iff_ne.mpr c91
                                    have c91b1 : (((rd_T50 l0 a1).f0) != 6) = true := bne_iff_ne.mpr c91
                                    (first | rw [c91b0] | (simp only [i64_w, i32_w]; rw [c91b0]) | skip)
                                    have H' := Aside0.mk H
                                    clear H
                                    go_wp2
                                    go_meet
                                    case rel => exact ⟨_, (1), (3), R_, R_, H', ⟨by have := HJ4.out; have := HJ9.out; have := HJ83.out; first | omega | exact Nat.le_refl _⟩, ⟨M_⟩, ⟨B_⟩⟩
                                case rest =>
                                  clear HC89
                                  try clear c1
                                  try clear c2
                                  try clear p2
                                  try clear c3
                                  try clear c4
                                  try clear c5
                                  try clear c6
                                  try clear c7
                                  try clear c8
                                  try clear c9
                                  try clear c11
                                  try clear c11b0
                                  try clear c11b1
                                  try clear c12
                                  try clear c12b0
                                  try clear c12b1
                                  try clear c21
                                  try clear c21b0
                                  try clear c25
                                  try clear c25b0
                                  try clear c25b1
                                  try clear c26
                                  try clear c26b0
                                  try clear c27
                                  try clear c27b0
                                  try clear c27b1
                                  try clear c28
                                  try clear c28b0
                                  try clear c29
                                  try clear c29b0
                                  try clear c29b1
                                  try clear c34
                                  try clear c34b0
                                  try clear c35
                                  try clear c35b0
                                  try clear c35b1
                                  try clear c40
                                  try clear c40b0
                                  try clear c40b1
                                  try clear c41
                                  try clear c41b0
                                  try clear c41b1
                                  try clear c42
                                  try clear c42b0
                                  try clear c43
                                  try clear c43b0
                                  try clear c43b1
                                  try clear c44
                                  try clear c44b0
                                  try clear c45
                                  try clear c45b0
                                  try clear c45b1
                                  try clear c50
                                  try clear c50b0
                                  try clear c51
                                  try clear c51b0
                                  try clear c51b1
                                  try clear c55
                                  try clear c55b0
                                  try clear c55b1
                                  try clear c56
                                  try clear c56b0
                                  try clear c57
                                  try clear c57b0
                                  try clear c57b1
                                  try clear c58
                                  try clear c58b0
                                  try clear c59
                                  try clear c59b0
                                  try clear c59b1
                                  try clear c64
                                  try clear c64b0
                                  try clear c65
                                  try clear c65b0
                                  try clear c65b1
                                  try clear c71
                                  try clear c72
                                  try clear c72b0
                                  try clear c72b1
                                  try clear c73
                                  try clear c73b0
                                  try clear c73b1
                                  try clear c76
                                  try clear c76b0
                                  try clear c76b1
                                  try clear c78
                                  try clear c79
                                  try clear c80
                                  try clear c80b0
                                  try clear c80b1
                                  try clear c85
                                  try clear c85b0
                                  try clear c85b1
                                  try clear c86
                                  try clear c88
                                  try clear c91
                                  try clear c91b0
                                  try clear c91b1
                                  try clear hcz30_0 hcz30_1 hcz30_2 hcz30_3 hcz30_4 hcz30_5 hfz30_0 hfz30_1 hfz30_2 hfz30_3 hfz30_4 hfz30_5
                                  try clear hcz31_0 hcz31_1 hcz31_2 hcz31_3 hcz31_4 hcz31_5 hfz31_0 hfz31_1 hfz31_2 hfz31_3 hfz31_4 hfz31_5
                                  try clear hcz32_0 hcz32_1 hcz32_2 hcz32_3 hcz32_4 hcz32_5 hfz32_0 hfz32_1 hfz32_2 hfz32_3 hfz32_4 hfz32_5
                                  try clear hcz33_0 hcz33_1 hcz33_2 hcz33_3 hcz33_4 hcz33_5 hfz33_0 hfz33_1 hfz33_2 hfz33_3 hfz33_4 hfz33_5
                                  try clear hcz36_0 hcz36_1 hcz36_2 hcz36_3 hcz36_4 hcz36_5 hfz36_0 hfz36_1 hfz36_2 hfz36_3 hfz36_4 hfz36_5
                                  try clear hcz37_0 hcz37_1 hcz37_2 hcz37_3 hcz37_4 hcz37_5 hfz37_0 hfz37_1 hfz37_2 hfz37_3 hfz37_4 hfz37_5
                                  try clear hcz38_0 hcz38_1 hcz38_2 hcz38_3 hcz38_4 hcz38_5 hfz38_0 hfz38_1 hfz38_2 hfz38_3 hfz38_4 hfz38_5
                                  try clear hcz39_0 hcz39_1 hcz39_2 hcz39_3 hcz39_4 hcz39_5 hfz39_0 hfz39_1 hfz39_2 hfz39_3 hfz39_4 hfz39_5
                                  try clear hcz46_0 hcz46_1 hcz46_2 hcz46_3 hcz46_4 hcz46_5 hfz46_0 hfz46_1 hfz46_2 hfz46_3 hfz46_4 hfz46_5
                                  try clear hcz47_0 hcz47_1 hcz47_2 hcz47_3 hcz47_4 hcz47_5 hfz47_0 hfz47_1 hfz47_2 hfz47_3 hfz47_4 hfz47_5
                                  try clear hcz48_0 hcz48_1 hcz48_2 hcz48_3 hcz48_4 hcz48_5 hfz48_0 hfz48_1 hfz48_2 hfz48_3 hfz48_4 hfz48_5
                                  try clear hcz49_0 hcz49_1 hcz49_2 hcz49_3 hcz49_4 hcz49_5 hfz49_0 hfz49_1 hfz49_2 hfz49_3 hfz49_4 hfz49_5
                                  try clear hcz52_0 hcz52_1 hcz52_2 hcz52_3 hcz52_4 hcz52_5 hfz52_0 hfz52_1 hfz52_2 hfz52_3 hfz52_4 hfz52_5
                                  try clear hcz53_0 hcz53_1 hcz53_2 hcz53_3 hcz53_4 hcz53_5 hfz53_0 hfz53_1 hfz53_2 hfz53_3 hfz53_4 hfz53_5
                                  try clear hcz54_0 hcz54_1 hcz54_2 hcz54_3 hcz54_4 hcz54_5 hfz54_0 hfz54_1 hfz54_2 hfz54_3 hfz54_4 hfz54_5
                                  try clear hcz60_0 hcz60_1 hcz60_2 hcz60_3 hcz60_4 hcz60_5 hfz60_0 hfz60_1 hfz60_2 hfz60_3 hfz60_4 hfz60_5
                                  try clear hcz61_0 hcz61_1 hcz61_2 hcz61_3 hcz61_4 hcz61_5 hfz61_0 hfz61_1 hfz61_2 hfz61_3 hfz61_4 hfz61_5
                                  try clear hcz62_0 hcz62_1 hcz62_2 hcz62_3 hcz62_4 hcz62_5 hfz62_0 hfz62_1 hfz62_2 hfz62_3 hfz62_4 hfz62_5
                                  try clear hcz63_0 hcz63_1 hcz63_2 hcz63_3 hcz63_4 hcz63_5 hfz63_0 hfz63_1 hfz63_2 hfz63_3 hfz63_4 hfz63_5
                                  try clear hcz66_0 hcz66_1 hcz66_2 hcz66_3 hcz66_4 hcz66_5 hfz66_0 hfz66_1 hfz66_2 hfz66_3 hfz66_4 hfz66_5
                                  try clear hcz67_0 hcz67_1 hcz67_2 hcz67_3 hcz67_4 hcz67_5 hfz67_0 hfz67_1 hfz67_2 hfz67_3 hfz67_4 hfz67_5
                                  try clear hcz68_0 hcz68_1 hcz68_2 hcz68_3 hcz68_4 hcz68_5 hfz68_0 hfz68_1 hfz68_2 hfz68_3 hfz68_4 hfz68_5
                                  try clear hcz69_0 hcz69_1 hcz69_2 hcz69_3 hcz69_4 hcz69_5 hfz69_0 hfz69_1 hfz69_2 hfz69_3 hfz69_4 hfz69_5
                                  try clear hcz70_0 hcz70_1 hcz70_2 hcz70_3 hcz70_4 hcz70_5 hfz70_0 hfz70_1 hfz70_2 hfz70_3 hfz70_4 hfz70_5
                                  try clear hcz74_0 hcz74_1 hcz74_2 hcz74_3 hcz74_4 hcz74_5 hfz74_0 hfz74_1 hfz74_2 hfz74_3 hfz74_4 hfz74_5
                                  try clear hcz75_0 hcz75_1 hcz75_2 hcz75_3 hcz75_4 hcz75_5 hfz75_0 hfz75_1 hfz75_2 hfz75_3 hfz75_4 hfz75_5
                                  try clear hcz78_0 hcz78_1 hcz78_2 hcz78_3 hcz78_4 hcz78_5 hfz78_0 hfz78_1 hfz78_2 hfz78_3 hfz78_4 hfz78_5
                                  try clear hcz82_0 hcz82_1 hcz82_2 hcz82_3 hcz82_4 hcz82_5 hfz82_0 hfz82_1 hfz82_2 hfz82_3 hfz82_4 hfz82_5
                                  try clear hcz90_0 hcz90_1 hcz90_2 hcz90_3 hcz90_4 hcz90_5 hfz90_0 hfz90_1 hfz90_2 hfz90_3 hfz90_4 hfz90_5
                                  try clear hfz24_1 hfz24_2 hfz24_3 hfz24_4 hfz24_5
                                  try clear p2
                                  obtain ⟨kq, x7_88, x8_88, rfl, rfl, HA, HJ88, BK201, HB⟩ := hcut
                                  cases kq with
                                  | zero => exact absurd HA.out (by simp [keystoneref3_Wrong.j3])
                                  | succ kj88 =>
                                    have H := HA.out
                                    clear HA
                                    simp only [keystoneref3_Wrong.j3] at H
                                    replace H := Option.bind_eq_some_iff.mp H
                                    obtain ⟨t205, A920, H⟩ := H
                                    replace H : (if t205 = 0 then ((keystoneref3_text.f kj88 l0 ((rd_T50 l0 a1).f5) x8_88).bind fun t206 => (some t206)) else (some t205)) = some r := H
                                    have A92 := Aside0.mk A920
                                    clear A920
                                    by_cases c93 : t205 = 0
                                    · rw [if_pos c93] at H
                                      have c93b0 : (t205 == 0) = true := beq_iff_eq.mpr c93
                                      have c93b1 : (t205 != 0) = false := bne_eq_false_iff_eq.mpr c93
                                      clear c93
                                      replace H := Option.bind_eq_some_iff.mp H
                                      obtain ⟨t206, A940, H⟩ := H
                                      replace H : (some t206) = some r := H
                                      have A94 := Aside0.mk A940
                                      clear A940
                                      obtain rfl := Option.some.inj H
                                      obtain ⟨hcz95_0, hcz95_1, hcz95_2, hcz95_3, hcz95_4, hcz95_5, hfz95_0, hfz95_1, hfz95_2, hfz95_3, hfz95_4, hfz95_5⟩ := c6_ BK201.out
                                      go_wp2_with (first | ((with_reducible refine gt_ 78 ?_); refine gd_ 94 Tryd.func78 (keystoneref3_text.calls kj88 _ _ l0 ((rd_T50 l0 a1).f4) x7_88 t205 _ (Y_ (Kd.C_below HR0.out HB.out)) HC0.out A92.out) ?_; intro w96 hb; have BK201 := kb_ BK201 hb; have HB := bs_ hb; (try clear hb); (try clear hb2); (try clear hk); (try clear hi); obtain ⟨hcz97_0, hcz97_1, hcz97_2, hcz97_3, hcz97_4, hcz97_5, hfz97_0, hfz97_1, hfz97_2, hfz97_3, hfz97_4, hfz97_5⟩ := c6_ BK201.out) | ((with_reducible refine gt_ 78 ?_); refine gd_ 101 Tryd.func78 (keystoneref3_text.calls kj88 _ _ l0 ((rd_T50 l0 a1).f5) x8_88 t206 _ (Y_ (Kd.C_below HR0.out HB.out)) HC0.out A94.out) ?_; intro w98 hb; have BK201 := kb_ BK201 hb; have HB := bs_ hb; (try clear hb); (try clear hb2); (try clear hk); (try clear hi)))
                                      go_ret
                                      exact ⟨E_, B_⟩
                                    · rw [if_neg c93] at H
                                      have c93b0 : (t205 == 0) = false := beq_eq_false_iff_ne.mpr c93
                                      have c93b1 : (t205 != 0) = true := bne_iff_ne.mpr c93
                                      obtain rfl := Option.some.inj H
                                      obtain ⟨hcz99_0, hcz99_1, hcz99_2, hcz99_3, hcz99_4, hcz99_5, hfz99_0, hfz99_1, hfz99_2, hfz99_3, hfz99_4, hfz99_5⟩ := c6_ BK201.out
                                      go_wp2_with (first | ((with_reducible refine gt_ 78 ?_); refine gd_ 94 Tryd.func78 (keystoneref3_text.calls kj88 _ _ l0 ((rd_T50 l0 a1).f4) x7_88 t205 _ (Y_ (Kd.C_below HR0.out HB.out)) HC0.out A92.out) ?_; intro w100 hb; have BK201 := kb_ BK201 hb; have HB := bs_ hb; (try clear hb); (try clear hb2); (try clear hk); (try clear hi)))
                                      go_ret
                                      exact ⟨E_, B_⟩
                              · replace c88 := Bool.eq_false_iff.mpr c88
                                subst c88
                                have H1 : (some 16) = some r := by rw [if_neg (show ¬ (false = true) by decide)] at H; exact H
                                clear H
                                have H := H1
                                clear H1
                                obtain rfl := Option.some.inj H
                                obtain ⟨hcz101_0, hcz101_1, hcz101_2, hcz101_3, hcz101_4, hcz101_5, hfz101_0, hfz101_1, hfz101_2, hfz101_3, hfz101_4, hfz101_5⟩ := c6_ BK201.out
                                go_wp2_with (first | ((with_reducible refine gt_ 79 ?_); refine gd_ 86 Tryd.func79 (keystoneref3_is.calls _ _ l0 ((rd_T50 l0 a1).f3) 3 false _ (Y_ (Kd.C_below HR0.out HB.out)) HC0.out A87.out) ?_; rintro w' ⟨nd, rfl⟩))
                                go_ret
                                exact ⟨E_, B_⟩
                            · replace c86 := Bool.eq_false_iff.mpr c86
                              subst c86
                              have H1 : (some 0) = some r := by rw [if_neg (show ¬ (false = true) by decide)] at H; exact H
                              clear H
                              have H := H1
                              clear H1
                              obtain rfl := Option.some.inj H
                              go_wp2
                              go_ret
                              exact ⟨E_, B_⟩
    · rw [if_neg c4] at H
      exact absurd H (by simp)
  · rw [if_neg c3] at H
    exact absurd H (by simp)
def keystoneref3_Check.l0 : Nat → List (S50) → Int → Option (Int × Int)
  | 0, _, _ => none
  | k + 1, x0, x4 => if x4 < (x0.length : Int) then ((keystoneref3_Wrong.f k x0 x4).bind fun t207 => (if t207 = 0 then (keystoneref3_Check.l0 k x0 (wrap64 (x4 + 1))) else (some (x4, t207)))) else (some (0, 0))
def keystoneref3_Check.f (k : Nat) (l0 : List (S50)) : Option (Int × Int) := if (l0.length : Int) > 4096 then (some (4096, 4)) else (keystoneref3_Check.l0 k l0 0)
theorem keystoneref3_Check.mono_l : ∀ k, (∀ y0 y1, LeO (keystoneref3_Check.l0 k y0 y1) (keystoneref3_Check.l0 (k + 1) y0 y1))
  | 0 => fun _ _ r h => by simp [keystoneref3_Check.l0] at h
  | k + 1 => by
    have ih0 := keystoneref3_Check.mono_l k
    · intro y0 y1
      unfold keystoneref3_Check.l0
      repeat' first
      | (with_reducible exact ih0 _ _)
      | (with_reducible exact keystoneref3_Wrong.mono _ _ _)
      | (with_reducible exact LeO.refl _)
      | (with_reducible exact LeO.none _)
      | (with_reducible refine LeO.ite ?_ ?_)
      | (with_reducible refine LeO.bind ?_ (fun _ => ?_))
      | exact ih0 _ _
      | exact keystoneref3_Wrong.mono _ _ _
      | exact LeO.none _
      | refine LeO.ite ?_ ?_
      | refine LeO.bind ?_ (fun _ => ?_)
theorem keystoneref3_Check.mono : ∀ a0 k, LeO (keystoneref3_Check.f k a0) (keystoneref3_Check.f (k + 1) a0) := by
  intro a0 k
  have ih0 := keystoneref3_Check.mono_l k
  unfold keystoneref3_Check.f
  repeat' first
      | (with_reducible exact ih0 _ _)
      | (with_reducible exact keystoneref3_Wrong.mono _ _ _)
      | (with_reducible exact LeO.refl _)
      | (with_reducible exact LeO.none _)
      | (with_reducible refine LeO.ite ?_ ?_)
      | (with_reducible refine LeO.bind ?_ (fun _ => ?_))
      | exact ih0 _ _
      | exact keystoneref3_Wrong.mono _ _ _
      | exact LeO.none _
      | refine LeO.ite ?_ ?_
      | refine LeO.bind ?_ (fun _ => ?_)
set_option maxHeartbeats 8000000 in
set_option maxRecDepth 100000 in
theorem keystoneref3_Check.calls (k : Nat) (A0 : Option Addr) (c0 : Nat) (l0 : List (S50)) (r1 : Int) (r2 : Int) (w : World) (hr0 : Kd.C k50 w A0 l0.length l0) (hc0 : l0.length ≤ c0) (h : keystoneref3_Check.f k l0 = some (r1, r2)) :
    Calls Tryd.prog 16 #[.slice A0 l0.length c0] w fun e w' => e = .returned (.tuple #[.int .i64 r1, .int .i64 r2]) ∧ Below w.heap.size w w' := by
  have HR0 := Aside0.mk hr0
  have HC0 := Aside0.mk hc0
  clear hr0 hc0
  have HB := Aside0.mk (Below.refl w.heap.size w)
  have H : (if (l0.length : Int) > 4096 then (some (4096, 4)) else (keystoneref3_Check.l0 k l0 0)) = some (r1, r2) := h
  clear h
  by_cases c2 : (l0.length : Int) > 4096
  · rw [if_pos c2] at H
    have c2b0 : decide (4096 < (l0.length : Int)) = true := decide_eq_true c2
    have c2b1 : decide (4096 < l0.length) = true := decide_eq_true (by omega)
    clear c2
    simp only [Option.some.injEq, Prod.mk.injEq] at H
    obtain ⟨rfl, rfl⟩ := H
    go_enter Tryd.func16, Tryd.ntmps16
    go_wp2
    go_ret2
    exact ⟨E_, B_⟩
  · rw [if_neg c2] at H
    have c2b0 : decide (4096 < (l0.length : Int)) = false := decide_eq_false c2
    have c2b1 : decide (4096 < l0.length) = false := decide_eq_false (by omega)
    clear c2
    have H' := Aside0.mk H
    clear H
    go_enter Tryd.func16, Tryd.ntmps16
    go_wp2
    go_loopg [4] k (fun kq v4 w' => ∃ (x4_1 : Int), v4 = .int .i64 x4_1 ∧ Aside0 (keystoneref3_Check.l0 kq l0 x4_1 = some (r1, r2)) ∧ Aside0 (kq ≤ k) ∧ Aside0 (Below w.heap.size w w'))
    case atStart => exact ⟨(0), R_, H', ⟨Nat.le_refl _⟩, ⟨B_⟩⟩
    case round =>
      clear H'
      try clear c1
      try clear c2
      try clear c2b0
      try clear c2b1
      try clear p2
      obtain ⟨x4_1, rfl, HA, HK1, HB⟩ := hrel
      cases gk with
      | zero => exact absurd HA.out (by simp [keystoneref3_Check.l0])
      | succ k1 =>
        have H := HA.out
        clear HA
        simp only [keystoneref3_Check.l0] at H
        by_cases c3 : x4_1 < (l0.length : Int)
        · rw [if_pos c3] at H
          have c3b0 : decide (x4_1 < (l0.length : Int)) = true := decide_eq_true c3
          clear c3
          replace H := Option.bind_eq_some_iff.mp H
          obtain ⟨t207, A40, H⟩ := H
          replace H : (if t207 = 0 then (keystoneref3_Check.l0 k1 l0 (wrap64 (x4_1 + 1))) else (some (x4_1, t207))) = some (r1, r2) := H
          have A4 := Aside0.mk A40
          clear A40
          by_cases c5 : t207 = 0
          · rw [if_pos c5] at H
            have c5b0 : (t207 == 0) = true := beq_iff_eq.mpr c5
            have c5b1 : (t207 != 0) = false := bne_eq_false_iff_eq.mpr c5
            clear c5
            have H' := Aside0.mk H
            clear H
            go_wp2_with (first | ((with_reducible refine gt_ 40 ?_); refine gd_ 17 Tryd.func40 (keystoneref3_Wrong.calls k1 _ _ l0 x4_1 t207 _ (Y_ (Kd.C_below HR0.out HB.out)) HC0.out A4.out) ?_; intro w6 hb; have HB := bs_ hb; (try clear hb); (try clear hb2); (try clear hk); (try clear hi)))
            go_roundg k1
            case measure => have := HK1.out; omega
            case rel => exact ⟨(wrap64 (x4_1 + 1)), R_, H', ⟨by have := HK1.out; omega⟩, ⟨B_⟩⟩
          · rw [if_neg c5] at H
            have c5b0 : (t207 == 0) = false := beq_eq_false_iff_ne.mpr c5
            have c5b1 : (t207 != 0) = true := bne_iff_ne.mpr c5
            simp only [Option.some.injEq, Prod.mk.injEq] at H
            obtain ⟨rfl, rfl⟩ := H
            go_wp2_with (first | ((with_reducible refine gt_ 40 ?_); refine gd_ 17 Tryd.func40 (keystoneref3_Wrong.calls k1 _ _ l0 x4_1 t207 _ (Y_ (Kd.C_below HR0.out HB.out)) HC0.out A4.out) ?_; intro w7 hb; have HB := bs_ hb; (try clear hb); (try clear hb2); (try clear hk); (try clear hi)))
            go_ret2
            exact ⟨E_, B_⟩
        · rw [if_neg c3] at H
          have c3b0 : decide (x4_1 < (l0.length : Int)) = false := decide_eq_false c3
          clear c3
          simp only [Option.some.injEq, Prod.mk.injEq] at H
          obtain ⟨rfl, rfl⟩ := H
          go_wp2
          go_ret2
          exact ⟨E_, B_⟩
end Go.Proofs.YtldejfkplnejjaaDoor.P
