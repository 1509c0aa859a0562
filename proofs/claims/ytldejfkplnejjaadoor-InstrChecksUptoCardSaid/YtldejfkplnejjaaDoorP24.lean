-- Written by my program xprint.py (a patched run of the kit's print). Lean checks it.
import Derived.Test.YtldejfkplnejjaaDoorP0
import Derived.Test.YtldejfkplnejjaaDoorP19
import Derived.Test.YtldejfkplnejjaaDoorP22
import Derived.Test.YtldejfkplnejjaaDoorP23
import Derived.Test.YtldejfkplnejjaaDoorExt
import Derived.Test.YtldejfkplnejjaaDoorShort
import Derived.Test.YtldejfkplnejjaaDoorShort2
namespace Go.Proofs.YtldejfkplnejjaaDoor.P
open Go.RowKit Go.Proofs.YtldejfkplnejjaaDoorW.PrintWords Go.Proofs.YtldejfkplnejjaaDoorW.PrintLast Go.Proofs.YtldejfkplnejjaaDoorW.PrintMore
attribute [local go_sem] max2_int min2_int max_two min_two max_three min_three max_four min_four   -- for this text's walks alone
set_option linter.unusedVariables false
set_option linter.unusedSimpArgs false
mutual
def keystoneref4_Entry.j0 : Nat → List (S50) → Int → Int → Bool → Int → Int → Int → Int → Option (Int)
 | 0, _, _, _, _, _, _, _, _ => none
 | k + 1, x1, x5, x13, x32, x634000, x634001, x634002, x634003 => if x32 = true then ((keystoneref3_Field.f k x1 x634002).bind fun bt638 => (some bt638.2.2.2.2)) else (if x13 = 30 then (keystoneref4_Entry.j1 k x1 x5 x13 (x13 == 30) x634000 x634001 x634002 x634003) else (if x13 = 36 then (keystoneref4_Entry.j1 k x1 x5 x13 (x13 == 36) x634000 x634001 x634002 x634003) else (keystoneref4_Entry.j1 k x1 x5 x13 (x13 == 37) x634000 x634001 x634002 x634003)))
def keystoneref4_Entry.j1 : Nat → List (S50) → Int → Int → Bool → Int → Int → Int → Int → Option (Int)
 | 0, _, _, _, _, _, _, _, _ => none
 | k + 1, x1, x5, x13, x46, x634000, x634001, x634002, x634003 => if x46 = true then ((keystoneref3_Type.f k x1 x634002).bind fun bt643 => (if bt643.2.2 = 0 then (if x634001 = 30 then (if bt643.1 ≥ 8 then (some 15) else (some bt643.2.2)) else ((keystoneref2_Number.f bt643.1 bt643.2.1).bind fun t647 => (if t647 = true then (some 15) else (some bt643.2.2)))) else (some bt643.2.2))) else (if x13 = 38 then (keystoneref4_Entry.j2 k x1 x5 (x13 == 38) x634000 x634001 x634002 x634003) else (if x13 = 39 then (keystoneref4_Entry.j2 k x1 x5 (x13 == 39) x634000 x634001 x634002 x634003) else (if x13 = 40 then (keystoneref4_Entry.j2 k x1 x5 (x13 == 40) x634000 x634001 x634002 x634003) else (keystoneref4_Entry.j2 k x1 x5 (x13 == 41) x634000 x634001 x634002 x634003))))
def keystoneref4_Entry.j2 : Nat → List (S50) → Int → Bool → Int → Int → Int → Int → Option (Int)
 | 0, _, _, _, _, _, _, _ => none
 | k + 1, x1, x5, x79, x634000, x634001, x634002, x634003 => if x79 = true then ((keystoneref3_Method.f k x1 x634002).bind fun bt648 => (if bt648.2.2.2.2.2.2 = 0 then (keystoneref4_Entry.j3 k bt648.2.2.2.2.2.2 ((bt648.2.1.toList == ([60, 105, 110, 105, 116, 62] : List UInt8)) != (x634001 == 41)) x634000 x634001 x634002 x634003 bt648.2.2.1 bt648.2.2.2.1 bt648.2.2.2.2.1 bt648.2.2.2.2.2.1) else (keystoneref4_Entry.j3 k bt648.2.2.2.2.2.2 false x634000 x634001 x634002 x634003 bt648.2.2.1 bt648.2.2.2.1 bt648.2.2.2.2.1 bt648.2.2.2.2.2.1))) else (some x5)
def keystoneref4_Entry.j3 : Nat → Int → Bool → Int → Int → Int → Int → List (S34) → Bool → Int → ByteArray → Option (Int)
 | 0, _, _, _, _, _, _, _, _, _, _ => none
 | k + 1, x5, x103, x634000, x634001, x634002, x634003, x658000, x658001, x658002, x658003 => if x103 = true then (if 14 = 0 then (if x634001 = 41 then (if x658001 = true then (some 14) else (some 15)) else (some 14)) else (some 14)) else (if x5 = 0 then (if x634001 = 41 then (if x658001 = true then (some x5) else (some 15)) else (some x5)) else (some x5))
end
def keystoneref4_Entry.f (k : Nat) (a0_0 : Int) (a0_1 : Int) (a0_2 : Int) (a0_3 : Int) (l1 : List (S50)) : Option (Int) := if a0_1 = 1 then ((keystoneref3_Number.f k l1 a0_2).bind fun bt634 => (some bt634.2)) else (if a0_1 = 25 then ((keystoneref3_Class.f k l1 a0_2).bind fun bt636 => (some bt636.2)) else (if a0_1 = 26 then (keystoneref4_Entry.j0 k l1 0 a0_1 (a0_1 == 26) a0_0 a0_1 a0_2 a0_3) else (if a0_1 = 27 then (keystoneref4_Entry.j0 k l1 0 a0_1 (a0_1 == 27) a0_0 a0_1 a0_2 a0_3) else (if a0_1 = 28 then (keystoneref4_Entry.j0 k l1 0 a0_1 (a0_1 == 28) a0_0 a0_1 a0_2 a0_3) else (keystoneref4_Entry.j0 k l1 0 a0_1 (a0_1 == 29) a0_0 a0_1 a0_2 a0_3)))))
theorem keystoneref4_Entry.mono_l : ∀ k, (∀ y0 y1 y2 y3 y4 y5 y6 y7, LeO (keystoneref4_Entry.j0 k y0 y1 y2 y3 y4 y5 y6 y7) (keystoneref4_Entry.j0 (k + 1) y0 y1 y2 y3 y4 y5 y6 y7)) ∧ (∀ y0 y1 y2 y3 y4 y5 y6 y7, LeO (keystoneref4_Entry.j1 k y0 y1 y2 y3 y4 y5 y6 y7) (keystoneref4_Entry.j1 (k + 1) y0 y1 y2 y3 y4 y5 y6 y7)) ∧ (∀ y0 y1 y2 y3 y4 y5 y6, LeO (keystoneref4_Entry.j2 k y0 y1 y2 y3 y4 y5 y6) (keystoneref4_Entry.j2 (k + 1) y0 y1 y2 y3 y4 y5 y6)) ∧ (∀ y0 y1 y2 y3 y4 y5 y6 y7 y8 y9, LeO (keystoneref4_Entry.j3 k y0 y1 y2 y3 y4 y5 y6 y7 y8 y9) (keystoneref4_Entry.j3 (k + 1) y0 y1 y2 y3 y4 y5 y6 y7 y8 y9))
 | 0 => ⟨fun _ _ _ _ _ _ _ _ r h => by simp [keystoneref4_Entry.j0] at h, fun _ _ _ _ _ _ _ _ r h => by simp [keystoneref4_Entry.j1] at h, fun _ _ _ _ _ _ _ r h => by simp [keystoneref4_Entry.j2] at h, fun _ _ _ _ _ _ _ _ _ _ r h => by simp [keystoneref4_Entry.j3] at h⟩
 | k + 1 => by
  obtain ⟨ih0, ih1, ih2, ih3⟩ := keystoneref4_Entry.mono_l k
  refine ⟨?_, ?_, ?_, ?_⟩
  ·
   intro y0 y1 y2 y3 y4 y5 y6 y7
   unfold keystoneref4_Entry.j0
   repeat' first
   | (with_reducible exact ih0 _ _ _ _ _ _ _ _)
   | (with_reducible exact ih1 _ _ _ _ _ _ _ _)
   | (with_reducible exact ih2 _ _ _ _ _ _ _)
   | (with_reducible exact ih3 _ _ _ _ _ _ _ _ _ _)
   | (with_reducible exact keystoneref3_Class.mono _ _ _)
   | (with_reducible exact keystoneref3_Field.mono _ _ _)
   | (with_reducible exact keystoneref3_Method.mono _ _ _)
   | (with_reducible exact keystoneref3_Number.mono _ _ _)
   | (with_reducible exact keystoneref3_Type.mono _ _ _)
   | (with_reducible exact LeO.refl _)
   | (with_reducible exact LeO.none _)
   | (with_reducible refine LeO.ite ?_ ?_)
   | (with_reducible refine LeO.bind ?_ (fun _ => ?_))
   | exact ih0 _ _ _ _ _ _ _ _
   | exact ih1 _ _ _ _ _ _ _ _
   | exact ih2 _ _ _ _ _ _ _
   | exact ih3 _ _ _ _ _ _ _ _ _ _
   | exact keystoneref3_Class.mono _ _ _
   | exact keystoneref3_Field.mono _ _ _
   | exact keystoneref3_Method.mono _ _ _
   | exact keystoneref3_Number.mono _ _ _
   | exact keystoneref3_Type.mono _ _ _
   | exact LeO.none _
   | refine LeO.ite ?_ ?_
   | refine LeO.bind ?_ (fun _ => ?_)
  ·
   intro y0 y1 y2 y3 y4 y5 y6 y7
   unfold keystoneref4_Entry.j1
   repeat' first
   | (with_reducible exact ih0 _ _ _ _ _ _ _ _)
   | (with_reducible exact ih1 _ _ _ _ _ _ _ _)
   | (with_reducible exact ih2 _ _ _ _ _ _ _)
   | (with_reducible exact ih3 _ _ _ _ _ _ _ _ _ _)
   | (with_reducible exact keystoneref3_Class.mono _ _ _)
   | (with_reducible exact keystoneref3_Field.mono _ _ _)
   | (with_reducible exact keystoneref3_Method.mono _ _ _)
   | (with_reducible exact keystoneref3_Number.mono _ _ _)
   | (with_reducible exact keystoneref3_Type.mono _ _ _)
   | (with_reducible exact LeO.refl _)
   | (with_reducible exact LeO.none _)
   | (with_reducible refine LeO.ite ?_ ?_)
   | (with_reducible refine LeO.bind ?_ (fun _ => ?_))
   | exact ih0 _ _ _ _ _ _ _ _
   | exact ih1 _ _ _ _ _ _ _ _
   | exact ih2 _ _ _ _ _ _ _
   | exact ih3 _ _ _ _ _ _ _ _ _ _
   | exact keystoneref3_Class.mono _ _ _
   | exact keystoneref3_Field.mono _ _ _
   | exact keystoneref3_Method.mono _ _ _
   | exact keystoneref3_Number.mono _ _ _
   | exact keystoneref3_Type.mono _ _ _
   | exact LeO.none _
   | refine LeO.ite ?_ ?_
   | refine LeO.bind ?_ (fun _ => ?_)
  ·
   intro y0 y1 y2 y3 y4 y5 y6
   unfold keystoneref4_Entry.j2
   repeat' first
   | (with_reducible exact ih0 _ _ _ _ _ _ _ _)
   | (with_reducible exact ih1 _ _ _ _ _ _ _ _)
   | (with_reducible exact ih2 _ _ _ _ _ _ _)
   | (with_reducible exact ih3 _ _ _ _ _ _ _ _ _ _)
   | (with_reducible exact keystoneref3_Class.mono _ _ _)
   | (with_reducible exact keystoneref3_Field.mono _ _ _)
   | (with_reducible exact keystoneref3_Method.mono _ _ _)
   | (with_reducible exact keystoneref3_Number.mono _ _ _)
   | (with_reducible exact keystoneref3_Type.mono _ _ _)
   | (with_reducible exact LeO.refl _)
   | (with_reducible exact LeO.none _)
   | (with_reducible refine LeO.ite ?_ ?_)
   | (with_reducible refine LeO.bind ?_ (fun _ => ?_))
   | exact ih0 _ _ _ _ _ _ _ _
   | exact ih1 _ _ _ _ _ _ _ _
   | exact ih2 _ _ _ _ _ _ _
   | exact ih3 _ _ _ _ _ _ _ _ _ _
   | exact keystoneref3_Class.mono _ _ _
   | exact keystoneref3_Field.mono _ _ _
   | exact keystoneref3_Method.mono _ _ _
   | exact keystoneref3_Number.mono _ _ _
   | exact keystoneref3_Type.mono _ _ _
   | exact LeO.none _
   | refine LeO.ite ?_ ?_
   | refine LeO.bind ?_ (fun _ => ?_)
  ·
   intro y0 y1 y2 y3 y4 y5 y6 y7 y8 y9
   unfold keystoneref4_Entry.j3
   repeat' first
   | (with_reducible exact ih0 _ _ _ _ _ _ _ _)
   | (with_reducible exact ih1 _ _ _ _ _ _ _ _)
   | (with_reducible exact ih2 _ _ _ _ _ _ _)
   | (with_reducible exact ih3 _ _ _ _ _ _ _ _ _ _)
   | (with_reducible exact keystoneref3_Class.mono _ _ _)
   | (with_reducible exact keystoneref3_Field.mono _ _ _)
   | (with_reducible exact keystoneref3_Method.mono _ _ _)
   | (with_reducible exact keystoneref3_Number.mono _ _ _)
   | (with_reducible exact keystoneref3_Type.mono _ _ _)
   | (with_reducible exact LeO.refl _)
   | (with_reducible exact LeO.none _)
   | (with_reducible refine LeO.ite ?_ ?_)
   | (with_reducible refine LeO.bind ?_ (fun _ => ?_))
   | exact ih0 _ _ _ _ _ _ _ _
   | exact ih1 _ _ _ _ _ _ _ _
   | exact ih2 _ _ _ _ _ _ _
   | exact ih3 _ _ _ _ _ _ _ _ _ _
   | exact keystoneref3_Class.mono _ _ _
   | exact keystoneref3_Field.mono _ _ _
   | exact keystoneref3_Method.mono _ _ _
   | exact keystoneref3_Number.mono _ _ _
   | exact keystoneref3_Type.mono _ _ _
   | exact LeO.none _
   | refine LeO.ite ?_ ?_
   | refine LeO.bind ?_ (fun _ => ?_)
theorem keystoneref4_Entry.mono : ∀ a0 a1 a2 a3 a4 k, LeO (keystoneref4_Entry.f k a0 a1 a2 a3 a4) (keystoneref4_Entry.f (k + 1) a0 a1 a2 a3 a4) := by
 intro a0 a1 a2 a3 a4 k
 obtain ⟨ih0, ih1, ih2, ih3⟩ := keystoneref4_Entry.mono_l k
 unfold keystoneref4_Entry.f
 repeat' first
  | (with_reducible exact ih0 _ _ _ _ _ _ _ _)
  | (with_reducible exact ih1 _ _ _ _ _ _ _ _)
  | (with_reducible exact ih2 _ _ _ _ _ _ _)
  | (with_reducible exact ih3 _ _ _ _ _ _ _ _ _ _)
  | (with_reducible exact keystoneref3_Class.mono _ _ _)
  | (with_reducible exact keystoneref3_Field.mono _ _ _)
  | (with_reducible exact keystoneref3_Method.mono _ _ _)
  | (with_reducible exact keystoneref3_Number.mono _ _ _)
  | (with_reducible exact keystoneref3_Type.mono _ _ _)
  | (with_reducible exact LeO.refl _)
  | (with_reducible exact LeO.none _)
  | (with_reducible refine LeO.ite ?_ ?_)
  | (with_reducible refine LeO.bind ?_ (fun _ => ?_))
  | exact ih0 _ _ _ _ _ _ _ _
  | exact ih1 _ _ _ _ _ _ _ _
  | exact ih2 _ _ _ _ _ _ _
  | exact ih3 _ _ _ _ _ _ _ _ _ _
  | exact keystoneref3_Class.mono _ _ _
  | exact keystoneref3_Field.mono _ _ _
  | exact keystoneref3_Method.mono _ _ _
  | exact keystoneref3_Number.mono _ _ _
  | exact keystoneref3_Type.mono _ _ _
  | exact LeO.none _
  | refine LeO.ite ?_ ?_
  | refine LeO.bind ?_ (fun _ => ?_)
set_option maxHeartbeats 8000000 in
set_option maxRecDepth 100000 in
theorem keystoneref4_Entry.calls (k : Nat) (a0_0 : Int) (a0_1 : Int) (a0_2 : Int) (a0_3 : Int) (A1 : Option Addr) (c1 : Nat) (l1 : List (S50)) (r : Int) (w : World) (hr1 : Kd.C k50 w A1 l1.length l1) (hc1 : l1.length ≤ c1) (h : keystoneref4_Entry.f k a0_0 a0_1 a0_2 a0_3 l1 = some r) :
 Calls Tryd.prog 70 #[.agg #[.int .i64 a0_0, .int .i64 a0_1, .int .i64 a0_2, .int .i64 a0_3], .slice A1 l1.length c1] w fun e w' => e = .returned (.int .i64 r) ∧ Below w.heap.size w w' := by
 have hu77 := Tryd.underlying77
 have hu34 := Tryd.underlying34
 have hu39 := Tryd.underlying39
 have HR1 := Aside0.mk hr1
 have HC1 := Aside0.mk hc1
 clear hr1 hc1
 have HB := Aside0.mk (Below.refl w.heap.size w)
 have H : (if a0_1 = 1 then ((keystoneref3_Number.f k l1 a0_2).bind fun bt634 => (some bt634.2)) else (if a0_1 = 25 then ((keystoneref3_Class.f k l1 a0_2).bind fun bt636 => (some bt636.2)) else (if a0_1 = 26 then (keystoneref4_Entry.j0 k l1 0 a0_1 (a0_1 == 26) a0_0 a0_1 a0_2 a0_3) else (if a0_1 = 27 then (keystoneref4_Entry.j0 k l1 0 a0_1 (a0_1 == 27) a0_0 a0_1 a0_2 a0_3) else (if a0_1 = 28 then (keystoneref4_Entry.j0 k l1 0 a0_1 (a0_1 == 28) a0_0 a0_1 a0_2 a0_3) else (keystoneref4_Entry.j0 k l1 0 a0_1 (a0_1 == 29) a0_0 a0_1 a0_2 a0_3)))))) = some r := h
 clear h
 by_cases c3 : a0_1 = 1
 ·
  rw [if_pos c3] at H
  have c3b0 : (a0_1 == 1) = true := beq_iff_eq.mpr c3
  have c3b1 : (a0_1 != 1) = false := bne_eq_false_iff_eq.mpr c3
  clear c3
  replace H := Option.bind_eq_some_iff.mp H
  obtain ⟨⟨t634, t635⟩, A40, H⟩ := H
  replace H : (some t635) = some r := H
  have A4 := Aside0.mk A40
  clear A40
  obtain rfl := Option.some.inj H
  go_enter Tryd.func70, Tryd.ntmps70
  go_wp2_with (first | ((with_reducible refine d_ 2 ?_); refine X_ 2 #[.int .i64 a0_0, .int .i64 a0_1, .int .i64 a0_2, .int .i64 a0_3] 77 ?_; intro gb633 hg w5 hbox hb; have BK633 := Aside0.mk hbox; have GW633 := Aside0.mk (s_ hg); have GE633 := GW633; have HB := bs_ hb; clear hb hbox hg; obtain ⟨hcz6_0, hcz6_1, hcz6_2, hcz6_3, hfz6_0, hfz6_1, hfz6_2, hfz6_3⟩ := c4_ BK633.out) | ((with_reducible refine gt_ 45 ?_); refine gd_ 20 Tryd.func45 (keystoneref3_Number.calls k _ _ l1 a0_2 t634 t635 _ (Y_ (Kd.C_below HR1.out HB.out)) HC1.out A4.out) ?_; intro w7 hb; have BK633 := kb_ BK633 hb; have HB := bs_ hb; (try clear hb); (try clear hb2); (try clear hk); (try clear hi)))
  go_ret
  exact ⟨E_, B_⟩
 ·
  rw [if_neg c3] at H
  have c3b0 : (a0_1 == 1) = false := beq_eq_false_iff_ne.mpr c3
  have c3b1 : (a0_1 != 1) = true := bne_iff_ne.mpr c3
  by_cases c8 : a0_1 = 25
  ·
   rw [if_pos c8] at H
   have c8b0 : (a0_1 == 25) = true := beq_iff_eq.mpr c8
   have c8b1 : (a0_1 != 25) = false := bne_eq_false_iff_eq.mpr c8
   clear c8
   replace H := Option.bind_eq_some_iff.mp H
   obtain ⟨⟨t636, t637⟩, A90, H⟩ := H
   replace H : (some t637) = some r := H
   have A9 := Aside0.mk A90
   clear A90
   obtain rfl := Option.some.inj H
   go_enter Tryd.func70, Tryd.ntmps70
   go_wp2_with (first | ((with_reducible refine d_ 2 ?_); refine X_ 2 #[.int .i64 a0_0, .int .i64 a0_1, .int .i64 a0_2, .int .i64 a0_3] 77 ?_; intro gb633 hg w10 hbox hb; have BK633 := Aside0.mk hbox; have GW633 := Aside0.mk (s_ hg); have GE633 := GW633; have HB := bs_ hb; clear hb hbox hg; obtain ⟨hcz11_0, hcz11_1, hcz11_2, hcz11_3, hfz11_0, hfz11_1, hfz11_2, hfz11_3⟩ := c4_ BK633.out) | ((with_reducible refine gt_ 46 ?_); refine gd_ 29 Tryd.func46 (keystoneref3_Class.calls k _ _ l1 a0_2 t636 t637 _ (Y_ (Kd.C_below HR1.out HB.out)) HC1.out A9.out) ?_; intro w12 hb; have BK633 := kb_ BK633 hb; have HB := bs_ hb; (try clear hb); (try clear hb2); (try clear hk); (try clear hi)))
   go_ret
   exact ⟨E_, B_⟩
  ·
   rw [if_neg c8] at H
   have c8b0 : (a0_1 == 25) = false := beq_eq_false_iff_ne.mpr c8
   have c8b1 : (a0_1 != 25) = true := bne_iff_ne.mpr c8
   have HC13 := Aside0.mk H
   clear H
   go_enter Tryd.func70, Tryd.ntmps70
   go_upto_if 32 with (first | ((with_reducible refine d_ 2 ?_); refine X_ 2 #[.int .i64 a0_0, .int .i64 a0_1, .int .i64 a0_2, .int .i64 a0_3] 77 ?_; intro gb633 hg w14 hbox hb; have BK633 := Aside0.mk hbox; have GW633 := Aside0.mk (s_ hg); have GE633 := GW633; have HB := bs_ hb; clear hb hbox hg; obtain ⟨hcz15_0, hcz15_1, hcz15_2, hcz15_3, hfz15_0, hfz15_1, hfz15_2, hfz15_3⟩ := c4_ BK633.out))
   (try simp only [Act.put, List.setIfInBounds_toArray, List.set_cons_zero, List.set_cons_succ])
   go_cut [32] (fun v32 wc => ∃ (kq : Nat) (x32_12 : Bool), v32 = .bool x32_12 ∧ Aside0 (keystoneref4_Entry.j0 kq l1 0 a0_1 x32_12 a0_0 a0_1 a0_2 a0_3 = some r) ∧ Aside0 (kq ≤ k) ∧ Aside0 (wc.heap[gb633]? = some (.cells #[.int .i64 a0_0, .int .i64 a0_1, .int .i64 a0_2, .int .i64 a0_3] 77 (0, 0))) ∧ Aside0 (Below w.heap.size w wc))
   case first =>
    have H := HC13.out
    clear HC13
    by_cases c16 : a0_1 = 26
    ·
     rw [if_pos c16] at H
     have c16b0 : (a0_1 == 26) = true := beq_iff_eq.mpr c16
     have c16b1 : (a0_1 != 26) = false := bne_eq_false_iff_eq.mpr c16
     clear c16
     (first | rw [c16b0] | (simp only [i64_w, i32_w]; rw [c16b0]) | skip)
     have H' := Aside0.mk H
     clear H
     go_wp2
     go_meet
     case rel => exact ⟨_, ((a0_1 == 26)), R_, H', ⟨by first | omega | exact Nat.le_refl _⟩, ⟨M_⟩, ⟨B_⟩⟩
    ·
     rw [if_neg c16] at H
     have c16b0 : (a0_1 == 26) = false := beq_eq_false_iff_ne.mpr c16
     have c16b1 : (a0_1 != 26) = true := bne_iff_ne.mpr c16
     (first | rw [c16b0] | (simp only [i64_w, i32_w]; rw [c16b0]) | skip)
     by_cases c17 : a0_1 = 27
     ·
      rw [if_pos c17] at H
      have c17b0 : (a0_1 == 27) = true := beq_iff_eq.mpr c17
      have c17b1 : (a0_1 != 27) = false := bne_eq_false_iff_eq.mpr c17
      clear c17
      have H' := Aside0.mk H
      clear H
      go_wp2
      go_meet
      case rel => exact ⟨_, ((a0_1 == 27)), R_, H', ⟨by first | omega | exact Nat.le_refl _⟩, ⟨M_⟩, ⟨B_⟩⟩
     ·
      rw [if_neg c17] at H
      have c17b0 : (a0_1 == 27) = false := beq_eq_false_iff_ne.mpr c17
      have c17b1 : (a0_1 != 27) = true := bne_iff_ne.mpr c17
      by_cases c18 : a0_1 = 28
      ·
       rw [if_pos c18] at H
       have c18b0 : (a0_1 == 28) = true := beq_iff_eq.mpr c18
       have c18b1 : (a0_1 != 28) = false := bne_eq_false_iff_eq.mpr c18
       clear c18
       have H' := Aside0.mk H
       clear H
       go_wp2
       go_meet
       case rel => exact ⟨_, ((a0_1 == 28)), R_, H', ⟨by first | omega | exact Nat.le_refl _⟩, ⟨M_⟩, ⟨B_⟩⟩
      ·
       rw [if_neg c18] at H
       have c18b0 : (a0_1 == 28) = false := beq_eq_false_iff_ne.mpr c18
       have c18b1 : (a0_1 != 28) = true := bne_iff_ne.mpr c18
       have H' := Aside0.mk H
       clear H
       go_wp2
       go_meet
       case rel => exact ⟨_, ((a0_1 == 29)), R_, H', ⟨by first | omega | exact Nat.le_refl _⟩, ⟨M_⟩, ⟨B_⟩⟩
   case rest =>
    clear HC13 c3 c3b0 c3b1 c8 c8b0 c8b1 hcz15_0 hcz15_1 hcz15_2 hcz15_3 hfz15_0 hfz15_1 hfz15_2 hfz15_3
    obtain ⟨kq, x32_12, rfl, HA, HJ12, BK633, HB⟩ := hcut
    cases kq with
    | zero => exact absurd HA.out (by simp [keystoneref4_Entry.j0])
    | succ kj12 =>
     have H := HA.out
     clear HA
     simp only [keystoneref4_Entry.j0] at H
     by_cases c19 : x32_12 = true
     ·
      subst c19
      have H1 : ((keystoneref3_Field.f kj12 l1 a0_2).bind fun bt638 => (some bt638.2.2.2.2)) = some r := by rw [if_pos rfl] at H; exact H
      clear H
      have H := H1
      clear H1
      replace H := Option.bind_eq_some_iff.mp H
      obtain ⟨⟨t638, t639, t640, t641, t642⟩, A200, H⟩ := H
      replace H : (some t642) = some r := H
      have A20 := Aside0.mk A200
      clear A200
      obtain rfl := Option.some.inj H
      obtain ⟨hcz21_0, hcz21_1, hcz21_2, hcz21_3, hfz21_0, hfz21_1, hfz21_2, hfz21_3⟩ := c4_ BK633.out
      go_wp2_with (first | ((with_reducible refine gt_ 48 ?_); refine gd_ 41 Tryd.func48 (keystoneref3_Field.calls kj12 _ _ l1 a0_2 t638 t639 t640 t641 t642 _ (Y_ (Kd.C_below HR1.out HB.out)) HC1.out A20.out) ?_; intro w22 hb; have BK633 := kb_ BK633 hb; have HB := bs_ hb; (try clear hb); (try clear hb2); (try clear hk); (try clear hi)))
      go_ret
      exact ⟨E_, B_⟩
     ·
      replace c19 := Bool.eq_false_iff.mpr c19
      subst c19
      have H1 : (if a0_1 = 30 then (keystoneref4_Entry.j1 kj12 l1 0 a0_1 (a0_1 == 30) a0_0 a0_1 a0_2 a0_3) else (if a0_1 = 36 then (keystoneref4_Entry.j1 kj12 l1 0 a0_1 (a0_1 == 36) a0_0 a0_1 a0_2 a0_3) else (keystoneref4_Entry.j1 kj12 l1 0 a0_1 (a0_1 == 37) a0_0 a0_1 a0_2 a0_3))) = some r := by rw [if_neg (show ¬ (false = true) by decide)] at H; exact H
      clear H
      have H := H1
      clear H1
      have HC23 := Aside0.mk H
      clear H
      go_upto_if 46 with (fail)
      go_cut [46] (fun v46 wc => ∃ (kq : Nat) (x46_22 : Bool), v46 = .bool x46_22 ∧ Aside0 (keystoneref4_Entry.j1 kq l1 0 a0_1 x46_22 a0_0 a0_1 a0_2 a0_3 = some r) ∧ Aside0 (kq ≤ kj12) ∧ Aside0 (wc.heap[gb633]? = some (.cells #[.int .i64 a0_0, .int .i64 a0_1, .int .i64 a0_2, .int .i64 a0_3] 77 (0, 0))) ∧ Aside0 (Below w.heap.size w wc))
      case first =>
       have H := HC23.out
       clear HC23
       by_cases c24 : a0_1 = 30
       ·
        rw [if_pos c24] at H
        have c24b0 : (a0_1 == 30) = true := beq_iff_eq.mpr c24
        have c24b1 : (a0_1 != 30) = false := bne_eq_false_iff_eq.mpr c24
        clear c24
        (first | rw [c24b0] | (simp only [i64_w, i32_w]; rw [c24b0]) | skip)
        have H' := Aside0.mk H
        clear H
        go_wp2
        go_meet
        case rel => exact ⟨_, ((a0_1 == 30)), R_, H', ⟨by have := HJ12.out; first | omega | exact Nat.le_refl _⟩, ⟨M_⟩, ⟨B_⟩⟩
       ·
        rw [if_neg c24] at H
        have c24b0 : (a0_1 == 30) = false := beq_eq_false_iff_ne.mpr c24
        have c24b1 : (a0_1 != 30) = true := bne_iff_ne.mpr c24
        (first | rw [c24b0] | (simp only [i64_w, i32_w]; rw [c24b0]) | skip)
        by_cases c25 : a0_1 = 36
        ·
         rw [if_pos c25] at H
         have c25b0 : (a0_1 == 36) = true := beq_iff_eq.mpr c25
         have c25b1 : (a0_1 != 36) = false := bne_eq_false_iff_eq.mpr c25
         clear c25
         have H' := Aside0.mk H
         clear H
         go_wp2
         go_meet
         case rel => exact ⟨_, ((a0_1 == 36)), R_, H', ⟨by have := HJ12.out; first | omega | exact Nat.le_refl _⟩, ⟨M_⟩, ⟨B_⟩⟩
        ·
         rw [if_neg c25] at H
         have c25b0 : (a0_1 == 36) = false := beq_eq_false_iff_ne.mpr c25
         have c25b1 : (a0_1 != 36) = true := bne_iff_ne.mpr c25
         have H' := Aside0.mk H
         clear H
         go_wp2
         go_meet
         case rel => exact ⟨_, ((a0_1 == 37)), R_, H', ⟨by have := HJ12.out; first | omega | exact Nat.le_refl _⟩, ⟨M_⟩, ⟨B_⟩⟩
      case rest =>
       clear HC23
       obtain ⟨kq, x46_22, rfl, HA, HJ22, BK633, HB⟩ := hcut
       cases kq with
       | zero => exact absurd HA.out (by simp [keystoneref4_Entry.j1])
       | succ kj22 =>
        have H := HA.out
        clear HA
        simp only [keystoneref4_Entry.j1] at H
        by_cases c26 : x46_22 = true
        ·
         subst c26
         have H1 : ((keystoneref3_Type.f kj22 l1 a0_2).bind fun bt643 => (if bt643.2.2 = 0 then (if a0_1 = 30 then (if bt643.1 ≥ 8 then (some 15) else (some bt643.2.2)) else ((keystoneref2_Number.f bt643.1 bt643.2.1).bind fun t647 => (if t647 = true then (some 15) else (some bt643.2.2)))) else (some bt643.2.2))) = some r := by rw [if_pos rfl] at H; exact H
         clear H
         have H := H1
         clear H1
         replace H := Option.bind_eq_some_iff.mp H
         obtain ⟨⟨t643, t644, t645⟩, A270, H⟩ := H
         replace H : (if t645 = 0 then (if a0_1 = 30 then (if t643 ≥ 8 then (some 15) else (some t645)) else ((keystoneref2_Number.f t643 t644).bind fun t647 => (if t647 = true then (some 15) else (some t645)))) else (some t645)) = some r := H
         have A27 := Aside0.mk A270
         clear A270
         by_cases c28 : t645 = 0
         ·
          rw [if_pos c28] at H
          have c28b0 : (t645 == 0) = true := beq_iff_eq.mpr c28
          have c28b1 : (t645 != 0) = false := bne_eq_false_iff_eq.mpr c28
          clear c28
          by_cases c29 : a0_1 = 30
          ·
           rw [if_pos c29] at H
           have c29b0 : (a0_1 == 30) = true := beq_iff_eq.mpr c29
           have c29b1 : (a0_1 != 30) = false := bne_eq_false_iff_eq.mpr c29
           clear c29
           by_cases c30 : t643 ≥ 8
           ·
            rw [if_pos c30] at H
            have c30b0 : decide (8 ≤ t643) = true := decide_eq_true c30
            clear c30
            obtain rfl := Option.some.inj H
            obtain ⟨hcz31_0, hcz31_1, hcz31_2, hcz31_3, hfz31_0, hfz31_1, hfz31_2, hfz31_3⟩ := c4_ BK633.out
            go_wp2_with (first | ((with_reducible refine gt_ 47 ?_); refine gd_ 54 Tryd.func47 (keystoneref3_Type.calls kj22 _ _ l1 a0_2 t643 t644 t645 _ (Y_ (Kd.C_below HR1.out HB.out)) HC1.out A27.out) ?_; intro w32 hb; have BK633 := kb_ BK633 hb; have HB := bs_ hb; (try clear hb); (try clear hb2); (try clear hk); (try clear hi)) | ((with_reducible refine d_ 6 ?_); refine X_ 6 #[.int .i64 0, .string (⟨#[]⟩ : ByteArray)] 34 ?_; intro gb646 hg w33 hbox hb; have BK646 := Aside0.mk hbox; have GW646 := Aside0.mk (s_ hg); have GE646 := GW646; have NB633_646 := Aside0.mk (xx_ hg BK633); have BK633 := kb_ BK633 hb; have NB646_633 := Aside0.mk NB633_646.out.symm; have HB := bs_ hb; clear hb hbox hg; have hnb34 := NB646_633.out; have hnc34 := NB633_646.out; obtain ⟨hcz35_0, hcz35_1, hfz35_0, hfz35_1⟩ := c2_ BK646.out; obtain ⟨hcz36_0, hcz36_1, hcz36_2, hcz36_3, hfz36_0, hfz36_1, hfz36_2, hfz36_3⟩ := c4_ BK633.out))
            go_ret
            exact ⟨E_, B_⟩
           ·
            rw [if_neg c30] at H
            have c30b0 : decide (8 ≤ t643) = false := decide_eq_false c30
            clear c30
            obtain rfl := Option.some.inj H
            obtain ⟨hcz37_0, hcz37_1, hcz37_2, hcz37_3, hfz37_0, hfz37_1, hfz37_2, hfz37_3⟩ := c4_ BK633.out
            go_wp2_with (first | ((with_reducible refine gt_ 47 ?_); refine gd_ 54 Tryd.func47 (keystoneref3_Type.calls kj22 _ _ l1 a0_2 t643 t644 t645 _ (Y_ (Kd.C_below HR1.out HB.out)) HC1.out A27.out) ?_; intro w38 hb; have BK633 := kb_ BK633 hb; have HB := bs_ hb; (try clear hb); (try clear hb2); (try clear hk); (try clear hi)) | ((with_reducible refine d_ 6 ?_); refine X_ 6 #[.int .i64 0, .string (⟨#[]⟩ : ByteArray)] 34 ?_; intro gb646 hg w39 hbox hb; have BK646 := Aside0.mk hbox; have GW646 := Aside0.mk (s_ hg); have GE646 := GW646; have NB633_646 := Aside0.mk (xx_ hg BK633); have BK633 := kb_ BK633 hb; have NB646_633 := Aside0.mk NB633_646.out.symm; have HB := bs_ hb; clear hb hbox hg; have hnb40 := NB646_633.out; have hnc40 := NB633_646.out; obtain ⟨hcz41_0, hcz41_1, hfz41_0, hfz41_1⟩ := c2_ BK646.out; obtain ⟨hcz42_0, hcz42_1, hcz42_2, hcz42_3, hfz42_0, hfz42_1, hfz42_2, hfz42_3⟩ := c4_ BK633.out))
            go_ret
            exact ⟨E_, B_⟩
          ·
           rw [if_neg c29] at H
           have c29b0 : (a0_1 == 30) = false := beq_eq_false_iff_ne.mpr c29
           have c29b1 : (a0_1 != 30) = true := bne_iff_ne.mpr c29
           replace H := Option.bind_eq_some_iff.mp H
           obtain ⟨t647, A430, H⟩ := H
           replace H : (if t647 = true then (some 15) else (some t645)) = some r := H
           have A43 := Aside0.mk A430
           clear A430
           by_cases c44 : t647 = true
           ·
            subst c44
            have H1 : (some 15) = some r := by rw [if_pos rfl] at H; exact H
            clear H
            have H := H1
            clear H1
            obtain rfl := Option.some.inj H
            obtain ⟨hcz45_0, hcz45_1, hcz45_2, hcz45_3, hfz45_0, hfz45_1, hfz45_2, hfz45_3⟩ := c4_ BK633.out
            go_wp2_with (first | ((with_reducible refine gt_ 47 ?_); refine gd_ 54 Tryd.func47 (keystoneref3_Type.calls kj22 _ _ l1 a0_2 t643 t644 t645 _ (Y_ (Kd.C_below HR1.out HB.out)) HC1.out A27.out) ?_; intro w46 hb; have BK633 := kb_ BK633 hb; have HB := bs_ hb; (try clear hb); (try clear hb2); (try clear hk); (try clear hi)) | ((with_reducible refine d_ 6 ?_); refine X_ 6 #[.int .i64 0, .string (⟨#[]⟩ : ByteArray)] 34 ?_; intro gb646 hg w47 hbox hb; have BK646 := Aside0.mk hbox; have GW646 := Aside0.mk (s_ hg); have GE646 := GW646; have NB633_646 := Aside0.mk (xx_ hg BK633); have BK633 := kb_ BK633 hb; have NB646_633 := Aside0.mk NB633_646.out.symm; have HB := bs_ hb; clear hb hbox hg; have hnb48 := NB646_633.out; have hnc48 := NB633_646.out; obtain ⟨hcz49_0, hcz49_1, hfz49_0, hfz49_1⟩ := c2_ BK646.out; obtain ⟨hcz50_0, hcz50_1, hcz50_2, hcz50_3, hfz50_0, hfz50_1, hfz50_2, hfz50_3⟩ := c4_ BK633.out) | (go_at_call 102; (with_reducible refine (keystoneref2_Number.calls t643 t644 true _ A43.out).mono ?_); rintro e w51 ⟨rfl, hb⟩; have BK633 := Aside0.mk (blk_below (g := gb633) (o := .cells #[.int .i64 a0_0, .int .i64 a0_1, .int .i64 a0_2, .int .i64 a0_3] 77 (0, 0)) P_ hb); have BK646 := Aside0.mk (blk_below (g := gb646) (o := .cells #[.int .i64 t643, .string t644] 34 (0, 0)) P_ hb); have HB := bs_ hb; (try clear hb); (try clear hb2); (try clear hk); (try clear hi)))
            go_ret
            exact ⟨E_, B_⟩
           ·
            replace c44 := Bool.eq_false_iff.mpr c44
            subst c44
            have H1 : (some t645) = some r := by rw [if_neg (show ¬ (false = true) by decide)] at H; exact H
            clear H
            have H := H1
            clear H1
            obtain rfl := Option.some.inj H
            obtain ⟨hcz52_0, hcz52_1, hcz52_2, hcz52_3, hfz52_0, hfz52_1, hfz52_2, hfz52_3⟩ := c4_ BK633.out
            go_wp2_with (first | ((with_reducible refine gt_ 47 ?_); refine gd_ 54 Tryd.func47 (keystoneref3_Type.calls kj22 _ _ l1 a0_2 t643 t644 t645 _ (Y_ (Kd.C_below HR1.out HB.out)) HC1.out A27.out) ?_; intro w53 hb; have BK633 := kb_ BK633 hb; have HB := bs_ hb; (try clear hb); (try clear hb2); (try clear hk); (try clear hi)) | ((with_reducible refine d_ 6 ?_); refine X_ 6 #[.int .i64 0, .string (⟨#[]⟩ : ByteArray)] 34 ?_; intro gb646 hg w54 hbox hb; have BK646 := Aside0.mk hbox; have GW646 := Aside0.mk (s_ hg); have GE646 := GW646; have NB633_646 := Aside0.mk (xx_ hg BK633); have BK633 := kb_ BK633 hb; have NB646_633 := Aside0.mk NB633_646.out.symm; have HB := bs_ hb; clear hb hbox hg; have hnb55 := NB646_633.out; have hnc55 := NB633_646.out; obtain ⟨hcz56_0, hcz56_1, hfz56_0, hfz56_1⟩ := c2_ BK646.out; obtain ⟨hcz57_0, hcz57_1, hcz57_2, hcz57_3, hfz57_0, hfz57_1, hfz57_2, hfz57_3⟩ := c4_ BK633.out) | (go_at_call 102; (with_reducible refine (keystoneref2_Number.calls t643 t644 false _ A43.out).mono ?_); rintro e w58 ⟨rfl, hb⟩; have BK633 := Aside0.mk (blk_below (g := gb633) (o := .cells #[.int .i64 a0_0, .int .i64 a0_1, .int .i64 a0_2, .int .i64 a0_3] 77 (0, 0)) P_ hb); have BK646 := Aside0.mk (blk_below (g := gb646) (o := .cells #[.int .i64 t643, .string t644] 34 (0, 0)) P_ hb); have HB := bs_ hb; (try clear hb); (try clear hb2); (try clear hk); (try clear hi)))
            go_ret
            exact ⟨E_, B_⟩
         ·
          rw [if_neg c28] at H
          have c28b0 : (t645 == 0) = false := beq_eq_false_iff_ne.mpr c28
          have c28b1 : (t645 != 0) = true := bne_iff_ne.mpr c28
          obtain rfl := Option.some.inj H
          obtain ⟨hcz59_0, hcz59_1, hcz59_2, hcz59_3, hfz59_0, hfz59_1, hfz59_2, hfz59_3⟩ := c4_ BK633.out
          go_wp2_with (first | ((with_reducible refine gt_ 47 ?_); refine gd_ 54 Tryd.func47 (keystoneref3_Type.calls kj22 _ _ l1 a0_2 t643 t644 t645 _ (Y_ (Kd.C_below HR1.out HB.out)) HC1.out A27.out) ?_; intro w60 hb; have BK633 := kb_ BK633 hb; have HB := bs_ hb; (try clear hb); (try clear hb2); (try clear hk); (try clear hi)) | ((with_reducible refine d_ 6 ?_); refine X_ 6 #[.int .i64 0, .string (⟨#[]⟩ : ByteArray)] 34 ?_; intro gb646 hg w61 hbox hb; have BK646 := Aside0.mk hbox; have GW646 := Aside0.mk (s_ hg); have GE646 := GW646; have NB633_646 := Aside0.mk (xx_ hg BK633); have BK633 := kb_ BK633 hb; have NB646_633 := Aside0.mk NB633_646.out.symm; have HB := bs_ hb; clear hb hbox hg; have hnb62 := NB646_633.out; have hnc62 := NB633_646.out; obtain ⟨hcz63_0, hcz63_1, hfz63_0, hfz63_1⟩ := c2_ BK646.out))
          go_ret
          exact ⟨E_, B_⟩
        ·
         replace c26 := Bool.eq_false_iff.mpr c26
         subst c26
         have H1 : (if a0_1 = 38 then (keystoneref4_Entry.j2 kj22 l1 0 (a0_1 == 38) a0_0 a0_1 a0_2 a0_3) else (if a0_1 = 39 then (keystoneref4_Entry.j2 kj22 l1 0 (a0_1 == 39) a0_0 a0_1 a0_2 a0_3) else (if a0_1 = 40 then (keystoneref4_Entry.j2 kj22 l1 0 (a0_1 == 40) a0_0 a0_1 a0_2 a0_3) else (keystoneref4_Entry.j2 kj22 l1 0 (a0_1 == 41) a0_0 a0_1 a0_2 a0_3)))) = some r := by rw [if_neg (show ¬ (false = true) by decide)] at H; exact H
         clear H
         have H := H1
         clear H1
         have HC64 := Aside0.mk H
         clear H
         go_upto_if 79 with (fail)
         go_cut [79] (fun v79 wc => ∃ (kq : Nat) (x79_63 : Bool), v79 = .bool x79_63 ∧ Aside0 (keystoneref4_Entry.j2 kq l1 0 x79_63 a0_0 a0_1 a0_2 a0_3 = some r) ∧ Aside0 (kq ≤ kj22) ∧ Aside0 (wc.heap[gb633]? = some (.cells #[.int .i64 a0_0, .int .i64 a0_1, .int .i64 a0_2, .int .i64 a0_3] 77 (0, 0))) ∧ Aside0 (Below w.heap.size w wc))
         case first =>
          have H := HC64.out
          clear HC64
          by_cases c65 : a0_1 = 38
          ·
           rw [if_pos c65] at H
           have c65b0 : (a0_1 == 38) = true := beq_iff_eq.mpr c65
           have c65b1 : (a0_1 != 38) = false := bne_eq_false_iff_eq.mpr c65
           clear c65
           (first | rw [c65b0] | (simp only [i64_w, i32_w]; rw [c65b0]) | skip)
           have H' := Aside0.mk H
           clear H
           go_wp2
           go_meet
           case rel => exact ⟨_, ((a0_1 == 38)), R_, H', ⟨by have := HJ12.out; have := HJ22.out; first | omega | exact Nat.le_refl _⟩, ⟨M_⟩, ⟨B_⟩⟩
          ·
           rw [if_neg c65] at H
           have c65b0 : (a0_1 == 38) = false := beq_eq_false_iff_ne.mpr c65
           have c65b1 : (a0_1 != 38) = true := bne_iff_ne.mpr c65
           (first | rw [c65b0] | (simp only [i64_w, i32_w]; rw [c65b0]) | skip)
           by_cases c66 : a0_1 = 39
           ·
            rw [if_pos c66] at H
            have c66b0 : (a0_1 == 39) = true := beq_iff_eq.mpr c66
            have c66b1 : (a0_1 != 39) = false := bne_eq_false_iff_eq.mpr c66
            clear c66
            have H' := Aside0.mk H
            clear H
            go_wp2
            go_meet
            case rel => exact ⟨_, ((a0_1 == 39)), R_, H', ⟨by have := HJ12.out; have := HJ22.out; first | omega | exact Nat.le_refl _⟩, ⟨M_⟩, ⟨B_⟩⟩
           ·
            rw [if_neg c66] at H
            have c66b0 : (a0_1 == 39) = false := beq_eq_false_iff_ne.mpr c66
            have c66b1 : (a0_1 != 39) = true := bne_iff_ne.mpr c66
            by_cases c67 : a0_1 = 40
            ·
             rw [if_pos c67] at H
             have c67b0 : (a0_1 == 40) = true := beq_iff_eq.mpr c67
             have c67b1 : (a0_1 != 40) = false := bne_eq_false_iff_eq.mpr c67
             clear c67
             have H' := Aside0.mk H
             clear H
             go_wp2
             go_meet
             case rel => exact ⟨_, ((a0_1 == 40)), R_, H', ⟨by have := HJ12.out; have := HJ22.out; first | omega | exact Nat.le_refl _⟩, ⟨M_⟩, ⟨B_⟩⟩
            ·
             rw [if_neg c67] at H
             have c67b0 : (a0_1 == 40) = false := beq_eq_false_iff_ne.mpr c67
             have c67b1 : (a0_1 != 40) = true := bne_iff_ne.mpr c67
             have H' := Aside0.mk H
             clear H
             go_wp2
             go_meet
             case rel => exact ⟨_, ((a0_1 == 41)), R_, H', ⟨by have := HJ12.out; have := HJ22.out; first | omega | exact Nat.le_refl _⟩, ⟨M_⟩, ⟨B_⟩⟩
         case rest =>
          clear HC64
          obtain ⟨kq, x79_63, rfl, HA, HJ63, BK633, HB⟩ := hcut
          cases kq with
          | zero => exact absurd HA.out (by simp [keystoneref4_Entry.j2])
          | succ kj63 =>
           have H := HA.out
           clear HA
           simp only [keystoneref4_Entry.j2] at H
           by_cases c68 : x79_63 = true
           ·
            subst c68
            have H1 : ((keystoneref3_Method.f kj63 l1 a0_2).bind fun bt648 => (if bt648.2.2.2.2.2.2 = 0 then (keystoneref4_Entry.j3 kj63 bt648.2.2.2.2.2.2 ((bt648.2.1.toList == ([60, 105, 110, 105, 116, 62] : List UInt8)) != (a0_1 == 41)) a0_0 a0_1 a0_2 a0_3 bt648.2.2.1 bt648.2.2.2.1 bt648.2.2.2.2.1 bt648.2.2.2.2.2.1) else (keystoneref4_Entry.j3 kj63 bt648.2.2.2.2.2.2 false a0_0 a0_1 a0_2 a0_3 bt648.2.2.1 bt648.2.2.2.1 bt648.2.2.2.2.1 bt648.2.2.2.2.2.1))) = some r := by rw [if_pos rfl] at H; exact H
            clear H
            have H := H1
            clear H1
            replace H := Option.bind_eq_some_iff.mp H
            obtain ⟨⟨t648, t649, t650, t653, t654, t655, t656⟩, A690, H⟩ := H
            replace H : (if t656 = 0 then (keystoneref4_Entry.j3 kj63 t656 ((t649.toList == ([60, 105, 110, 105, 116, 62] : List UInt8)) != (a0_1 == 41)) a0_0 a0_1 a0_2 a0_3 t650 t653 t654 t655) else (keystoneref4_Entry.j3 kj63 t656 false a0_0 a0_1 a0_2 a0_3 t650 t653 t654 t655)) = some r := H
            have A69 := Aside0.mk A690
            clear A690
            have HC70 := Aside0.mk H
            clear H
            obtain ⟨hcz71_0, hcz71_1, hcz71_2, hcz71_3, hfz71_0, hfz71_1, hfz71_2, hfz71_3⟩ := c4_ BK633.out
            go_upto_region 25 with (first | ((with_reducible refine gt_ 49 ?_); refine gc_ 88 Tryd.func49 #[.slice A1 l1.length c1, .int .i64 a0_2] ?_; (with_reducible refine (keystoneref3_Method.calls kj63 _ _ l1 a0_2 t648 t649 t650 t653 t654 t655 t656 _ ?side1 ?side2 A69.out).mono ?_); (case side1 => exact Y_ (Kd.C_below HR1.out HB.out)); (case side2 => exact HC1.out); rintro e w72 ⟨v651, rfl, ho0, hb⟩; refine ⟨_, rfl, ?_⟩; have HO652 := Aside0.mk (Kd.R_lower ho0 (below_size B_)); have BK633 := kb_ BK633 hb; have HB := bs_ hb; (try clear hb); (try clear hb2); (try clear hk); (try clear hi); (try clear ho0)) | ((with_reducible refine d_ 10 ?_); refine X_ 10 #[.slice none 0 0, .bool false, .int .i64 0, .string (⟨#[]⟩ : ByteArray)] 39 ?_; intro gb657 hg w73 hbox hb; have HO652 := rb_ HO652 hb; have BK657 := Aside0.mk hbox; have GW657 := Aside0.mk (s_ hg); have GE657 := GW657; have NB633_657 := Aside0.mk (xx_ hg BK633); have BK633 := kb_ BK633 hb; have NB657_633 := Aside0.mk NB633_657.out.symm; have HB := bs_ hb; clear hb hbox hg; obtain ⟨Ao74, co74, eo74⟩ := Kd.R_slice HO652.out; subst eo74; have hnb75 := NB657_633.out; have hnc75 := NB633_657.out; obtain ⟨hcz76_0, hcz76_1, hcz76_2, hcz76_3, hfz76_0, hfz76_1, hfz76_2, hfz76_3⟩ := c4_ BK657.out))
            (try simp only [Act.put, List.setIfInBounds_toArray, List.set_cons_zero, List.set_cons_succ])
            go_cut [103] (fun v103 wc => ∃ (kq : Nat) (x103_69 : Bool), v103 = .bool x103_69 ∧ Aside0 (keystoneref4_Entry.j3 kq t656 x103_69 a0_0 a0_1 a0_2 a0_3 t650 t653 t654 t655 = some r) ∧ Aside0 (kq ≤ kj63) ∧ Aside0 (Kd.R k34 34 wc w.heap.size (fun _ => True) (.slice Ao74 t650.length co74) t650) ∧ Aside0 (wc.heap[gb633]? = some (.cells #[.int .i64 a0_0, .int .i64 a0_1, .int .i64 a0_2, .int .i64 a0_3] 77 (0, 0))) ∧ Aside0 (wc.heap[gb657]? = some (.cells #[(.slice Ao74 t650.length co74), .bool t653, .int .i64 t654, .string t655] 39 (0, 0))) ∧ Aside0 (Below w.heap.size w wc))
            case first =>
             have H := HC70.out
             clear HC70
             by_cases c77 : t656 = 0
             ·
              rw [if_pos c77] at H
              have c77b0 : (t656 == 0) = true := beq_iff_eq.mpr c77
              have c77b1 : (t656 != 0) = false := bne_eq_false_iff_eq.mpr c77
              clear c77
              (first | rw [c77b0] | (simp only [i64_w, i32_w]; rw [c77b0]) | skip)
              have H' := Aside0.mk H
              clear H
              have hnb78 := NB633_657.out
              have hnc78 := NB657_633.out
              obtain ⟨hcz79_0, hcz79_1, hcz79_2, hcz79_3, hfz79_0, hfz79_1, hfz79_2, hfz79_3⟩ := c4_ BK633.out
              go_wp2
              go_meet
              case rel => exact ⟨_, (((t649.toList == ([60, 105, 110, 105, 116, 62] : List UInt8)) != (a0_1 == 41))), R_, H', ⟨by have := HJ12.out; have := HJ22.out; have := HJ63.out; first | omega | exact Nat.le_refl _⟩, ⟨by (with_reducible repeat (first | apply Kd.R_alloc | apply Kd.R_drewN | apply Kd.R_drew)); exact Kd.R_mono (Kd.R_far (p := ⟨gb657, 3, none⟩) (Kd.R_far (p := ⟨gb657, 2, none⟩) (Kd.R_far (p := ⟨gb657, 1, none⟩) (Kd.R_far (p := ⟨gb657, 0, none⟩) (Kd.R_types HO652.out BK657.out (by decide)) (fun _ hk => hk.2) (.slice Ao74 t650.length co74)) (fun _ hk => hk.2) (.bool t653)) (fun _ hk => hk.2) (.int .i64 t654)) (fun _ hk => hk.2) (.string t655)) (fun _ hk => trivial)⟩, ⟨P_⟩, ⟨P_⟩, ⟨B_⟩⟩
             ·
              rw [if_neg c77] at H
              have c77b0 : (t656 == 0) = false := beq_eq_false_iff_ne.mpr c77
              have c77b1 : (t656 != 0) = true := bne_iff_ne.mpr c77
              (first | rw [c77b0] | (simp only [i64_w, i32_w]; rw [c77b0]) | skip)
              have H' := Aside0.mk H
              clear H
              go_wp2
              go_meet
              case rel => exact ⟨_, (false), R_, H', ⟨by have := HJ12.out; have := HJ22.out; have := HJ63.out; first | omega | exact Nat.le_refl _⟩, ⟨by (with_reducible repeat (first | apply Kd.R_alloc | apply Kd.R_drewN | apply Kd.R_drew)); exact Kd.R_mono (Kd.R_far (p := ⟨gb657, 3, none⟩) (Kd.R_far (p := ⟨gb657, 2, none⟩) (Kd.R_far (p := ⟨gb657, 1, none⟩) (Kd.R_far (p := ⟨gb657, 0, none⟩) (Kd.R_types HO652.out BK657.out (by decide)) (fun _ hk => hk.2) (.slice Ao74 t650.length co74)) (fun _ hk => hk.2) (.bool t653)) (fun _ hk => hk.2) (.int .i64 t654)) (fun _ hk => hk.2) (.string t655)) (fun _ hk => trivial)⟩, ⟨P_⟩, ⟨P_⟩, ⟨B_⟩⟩
            case rest =>
             clear HC70 hcz71_0 hcz71_1 hcz71_2 hcz71_3 hfz71_0 hfz71_1 hfz71_2 hfz71_3 hcz76_0 hcz76_1 hcz76_2 hcz76_3 hfz76_0 hfz76_1 hfz76_2 hfz76_3
             obtain ⟨kq, x103_69, rfl, HA, HJ69, HO_658000, BK633, BK657, HB⟩ := hcut
             cases kq with
             | zero => exact absurd HA.out (by simp [keystoneref4_Entry.j3])
             | succ kj69 =>
              have H := HA.out
              clear HA
              simp only [keystoneref4_Entry.j3] at H
              by_cases c80 : x103_69 = true
              ·
               subst c80
               have H1 : (if 14 = 0 then (if a0_1 = 41 then (if t653 = true then (some 14) else (some 15)) else (some 14)) else (some 14)) = some r := by rw [if_pos rfl] at H; exact H
               clear H
               have H := H1
               clear H1
               by_cases c81 : 14 = 0
               ·
                exact absurd c81 (by decide)
               ·
                rw [if_neg c81] at H
                have c81b0 : (14 == 0) = false := beq_eq_false_iff_ne.mpr c81
                have c81b1 : (14 != 0) = true := bne_iff_ne.mpr c81
                obtain rfl := Option.some.inj H
                go_wp2
                go_ret
                exact ⟨E_, B_⟩
              ·
               replace c80 := Bool.eq_false_iff.mpr c80
               subst c80
               have H1 : (if t656 = 0 then (if a0_1 = 41 then (if t653 = true then (some t656) else (some 15)) else (some t656)) else (some t656)) = some r := by rw [if_neg (show ¬ (false = true) by decide)] at H; exact H
               clear H
               have H := H1
               clear H1
               by_cases c92 : t656 = 0
               ·
                rw [if_pos c92] at H
                have c92b0 : (t656 == 0) = true := beq_iff_eq.mpr c92
                have c92b1 : (t656 != 0) = false := bne_eq_false_iff_eq.mpr c92
                clear c92
                by_cases c93 : a0_1 = 41
                ·
                 rw [if_pos c93] at H
                 have c93b0 : (a0_1 == 41) = true := beq_iff_eq.mpr c93
                 have c93b1 : (a0_1 != 41) = false := bne_eq_false_iff_eq.mpr c93
                 clear c93
                 by_cases c94 : t653 = true
                 ·
                  subst c94
                  have H1 : (some t656) = some r := by rw [if_pos rfl] at H; exact H
                  clear H
                  have H := H1
                  clear H1
                  obtain rfl := Option.some.inj H
                  have hnb95 := NB633_657.out
                  have hnc95 := NB657_633.out
                  obtain ⟨hcz96_0, hcz96_1, hcz96_2, hcz96_3, hfz96_0, hfz96_1, hfz96_2, hfz96_3⟩ := c4_ BK633.out
                  obtain ⟨hcz97_0, hcz97_1, hcz97_2, hcz97_3, hfz97_0, hfz97_1, hfz97_2, hfz97_3⟩ := c4_ BK657.out
                  go_wp2
                  go_ret
                  exact ⟨E_, B_⟩
                 ·
                  replace c94 := Bool.eq_false_iff.mpr c94
                  subst c94
                  have H1 : (some 15) = some r := by rw [if_neg (show ¬ (false = true) by decide)] at H; exact H
                  clear H
                  have H := H1
                  clear H1
                  obtain rfl := Option.some.inj H
                  have hnb98 := NB633_657.out
                  have hnc98 := NB657_633.out
                  obtain ⟨hcz99_0, hcz99_1, hcz99_2, hcz99_3, hfz99_0, hfz99_1, hfz99_2, hfz99_3⟩ := c4_ BK633.out
                  obtain ⟨hcz100_0, hcz100_1, hcz100_2, hcz100_3, hfz100_0, hfz100_1, hfz100_2, hfz100_3⟩ := c4_ BK657.out
                  go_wp2
                  go_ret
                  exact ⟨E_, B_⟩
                ·
                 rw [if_neg c93] at H
                 have c93b0 : (a0_1 == 41) = false := beq_eq_false_iff_ne.mpr c93
                 have c93b1 : (a0_1 != 41) = true := bne_iff_ne.mpr c93
                 obtain rfl := Option.some.inj H
                 have hnb101 := NB633_657.out
                 have hnc101 := NB657_633.out
                 obtain ⟨hcz102_0, hcz102_1, hcz102_2, hcz102_3, hfz102_0, hfz102_1, hfz102_2, hfz102_3⟩ := c4_ BK633.out
                 go_wp2
                 go_ret
                 exact ⟨E_, B_⟩
               ·
                rw [if_neg c92] at H
                have c92b0 : (t656 == 0) = false := beq_eq_false_iff_ne.mpr c92
                have c92b1 : (t656 != 0) = true := bne_iff_ne.mpr c92
                obtain rfl := Option.some.inj H
                go_wp2
                go_ret
                exact ⟨E_, B_⟩
           ·
            replace c68 := Bool.eq_false_iff.mpr c68
            subst c68
            have H1 : (some 0) = some r := by rw [if_neg (show ¬ (false = true) by decide)] at H; exact H
            clear H
            have H := H1
            clear H1
            obtain rfl := Option.some.inj H
            go_wp2
            go_ret
            exact ⟨E_, B_⟩
mutual
def keystoneref4_Check.l0 : Nat → List (S50) → Int → List (S77) → Int → Option (Int × Int)
 | 0, _, _, _, _ => none
 | k + 1, x1, x2, x8, x11 => if x11 < (x8.length : Int) then (if 0 ≤ x11 then (if ((rd_T77 x8 x11).f1) = 3 then (keystoneref4_Check.j1 k x1 x2 x8 x11 (decide (((rd_T77 x8 x11).f2) ≥ x2)) ((rd_T77 x8 x11).f0) ((rd_T77 x8 x11).f1) ((rd_T77 x8 x11).f2) ((rd_T77 x8 x11).f3)) else (if ((rd_T77 x8 x11).f1) = 4 then (keystoneref4_Check.j1 k x1 x2 x8 x11 (decide (((rd_T77 x8 x11).f2) ≥ x2)) ((rd_T77 x8 x11).f0) ((rd_T77 x8 x11).f1) ((rd_T77 x8 x11).f2) ((rd_T77 x8 x11).f3)) else (keystoneref4_Check.j1 k x1 x2 x8 x11 false ((rd_T77 x8 x11).f0) ((rd_T77 x8 x11).f1) ((rd_T77 x8 x11).f2) ((rd_T77 x8 x11).f3)))) else (none)) else (some (0, 0))
def keystoneref4_Check.j1 : Nat → List (S50) → Int → List (S77) → Int → Bool → Int → Int → Int → Int → Option (Int × Int)
 | 0, _, _, _, _, _, _, _, _, _ => none
 | k + 1, x1, x2, x8, x11, x40, x665000, x665001, x665002, x665003 => if x40 = true then (some (x665000, 43)) else ((keystoneref4_Jumps.f x665001).bind fun t665 => (if t665 = true then ((keystoneref4_Place.f k x8 x665002).bind fun t666 => (keystoneref4_Check.j2 k x1 x2 x8 x11 (decide (t666 < 0)) x665000 x665001 x665002 x665003)) else (keystoneref4_Check.j2 k x1 x2 x8 x11 false x665000 x665001 x665002 x665003)))
def keystoneref4_Check.j2 : Nat → List (S50) → Int → List (S77) → Int → Bool → Int → Int → Int → Int → Option (Int × Int)
 | 0, _, _, _, _, _, _, _, _, _ => none
 | k + 1, x1, x2, x8, x11, x57, x665000, x665001, x665002, x665003 => if x57 = true then (some (x665000, 18)) else ((keystoneref4_Entry.f k x665000 x665001 x665002 x665003 x1).bind fun t667 => (if t667 = 0 then (keystoneref4_Check.l0 k x1 x2 x8 (wrap64 (x11 + 1))) else (some (x665000, t667))))
end
def keystoneref4_Check.f (k : Nat) (l0 : List Int) (l1 : List (S50)) (a2 : Int) : Option (Int × Int) := if (l0.length : Int) = 0 then (some (0, 46)) else (if (l0.length : Int) > 1024 then (some (0, 5)) else ((keystoneref4_All.f k l0).bind fun bt658 => (if bt658.2.2 = 0 then (keystoneref4_Check.l0 k l1 a2 bt658.1 0) else (some (bt658.2.1, bt658.2.2)))))
theorem keystoneref4_Check.mono_l : ∀ k, (∀ y0 y1 y2 y3, LeO (keystoneref4_Check.l0 k y0 y1 y2 y3) (keystoneref4_Check.l0 (k + 1) y0 y1 y2 y3)) ∧ (∀ y0 y1 y2 y3 y4 y5 y6 y7 y8, LeO (keystoneref4_Check.j1 k y0 y1 y2 y3 y4 y5 y6 y7 y8) (keystoneref4_Check.j1 (k + 1) y0 y1 y2 y3 y4 y5 y6 y7 y8)) ∧ (∀ y0 y1 y2 y3 y4 y5 y6 y7 y8, LeO (keystoneref4_Check.j2 k y0 y1 y2 y3 y4 y5 y6 y7 y8) (keystoneref4_Check.j2 (k + 1) y0 y1 y2 y3 y4 y5 y6 y7 y8))
 | 0 => ⟨fun _ _ _ _ r h => by simp [keystoneref4_Check.l0] at h, fun _ _ _ _ _ _ _ _ _ r h => by simp [keystoneref4_Check.j1] at h, fun _ _ _ _ _ _ _ _ _ r h => by simp [keystoneref4_Check.j2] at h⟩
 | k + 1 => by
  obtain ⟨ih0, ih1, ih2⟩ := keystoneref4_Check.mono_l k
  refine ⟨?_, ?_, ?_⟩
  ·
   intro y0 y1 y2 y3
   unfold keystoneref4_Check.l0
   repeat' first
   | (with_reducible exact ih0 _ _ _ _)
   | (with_reducible exact ih1 _ _ _ _ _ _ _ _ _)
   | (with_reducible exact ih2 _ _ _ _ _ _ _ _ _)
   | (with_reducible exact keystoneref4_All.mono _ _)
   | (with_reducible exact keystoneref4_Entry.mono _ _ _ _ _ _)
   | (with_reducible exact keystoneref4_Place.mono _ _ _)
   | (with_reducible exact LeO.refl _)
   | (with_reducible exact LeO.none _)
   | (with_reducible refine LeO.ite ?_ ?_)
   | (with_reducible refine LeO.bind ?_ (fun _ => ?_))
   | exact ih0 _ _ _ _
   | exact ih1 _ _ _ _ _ _ _ _ _
   | exact ih2 _ _ _ _ _ _ _ _ _
   | exact keystoneref4_All.mono _ _
   | exact keystoneref4_Entry.mono _ _ _ _ _ _
   | exact keystoneref4_Place.mono _ _ _
   | exact LeO.none _
   | refine LeO.ite ?_ ?_
   | refine LeO.bind ?_ (fun _ => ?_)
  ·
   intro y0 y1 y2 y3 y4 y5 y6 y7 y8
   unfold keystoneref4_Check.j1
   repeat' first
   | (with_reducible exact ih0 _ _ _ _)
   | (with_reducible exact ih1 _ _ _ _ _ _ _ _ _)
   | (with_reducible exact ih2 _ _ _ _ _ _ _ _ _)
   | (with_reducible exact keystoneref4_All.mono _ _)
   | (with_reducible exact keystoneref4_Entry.mono _ _ _ _ _ _)
   | (with_reducible exact keystoneref4_Place.mono _ _ _)
   | (with_reducible exact LeO.refl _)
   | (with_reducible exact LeO.none _)
   | (with_reducible refine LeO.ite ?_ ?_)
   | (with_reducible refine LeO.bind ?_ (fun _ => ?_))
   | exact ih0 _ _ _ _
   | exact ih1 _ _ _ _ _ _ _ _ _
   | exact ih2 _ _ _ _ _ _ _ _ _
   | exact keystoneref4_All.mono _ _
   | exact keystoneref4_Entry.mono _ _ _ _ _ _
   | exact keystoneref4_Place.mono _ _ _
   | exact LeO.none _
   | refine LeO.ite ?_ ?_
   | refine LeO.bind ?_ (fun _ => ?_)
  ·
   intro y0 y1 y2 y3 y4 y5 y6 y7 y8
   unfold keystoneref4_Check.j2
   repeat' first
   | (with_reducible exact ih0 _ _ _ _)
   | (with_reducible exact ih1 _ _ _ _ _ _ _ _ _)
   | (with_reducible exact ih2 _ _ _ _ _ _ _ _ _)
   | (with_reducible exact keystoneref4_All.mono _ _)
   | (with_reducible exact keystoneref4_Entry.mono _ _ _ _ _ _)
   | (with_reducible exact keystoneref4_Place.mono _ _ _)
   | (with_reducible exact LeO.refl _)
   | (with_reducible exact LeO.none _)
   | (with_reducible refine LeO.ite ?_ ?_)
   | (with_reducible refine LeO.bind ?_ (fun _ => ?_))
   | exact ih0 _ _ _ _
   | exact ih1 _ _ _ _ _ _ _ _ _
   | exact ih2 _ _ _ _ _ _ _ _ _
   | exact keystoneref4_All.mono _ _
   | exact keystoneref4_Entry.mono _ _ _ _ _ _
   | exact keystoneref4_Place.mono _ _ _
   | exact LeO.none _
   | refine LeO.ite ?_ ?_
   | refine LeO.bind ?_ (fun _ => ?_)
theorem keystoneref4_Check.mono : ∀ a0 a1 a2 k, LeO (keystoneref4_Check.f k a0 a1 a2) (keystoneref4_Check.f (k + 1) a0 a1 a2) := by
 intro a0 a1 a2 k
 obtain ⟨ih0, ih1, ih2⟩ := keystoneref4_Check.mono_l k
 unfold keystoneref4_Check.f
 repeat' first
  | (with_reducible exact ih0 _ _ _ _)
  | (with_reducible exact ih1 _ _ _ _ _ _ _ _ _)
  | (with_reducible exact ih2 _ _ _ _ _ _ _ _ _)
  | (with_reducible exact keystoneref4_All.mono _ _)
  | (with_reducible exact keystoneref4_Entry.mono _ _ _ _ _ _)
  | (with_reducible exact keystoneref4_Place.mono _ _ _)
  | (with_reducible exact LeO.refl _)
  | (with_reducible exact LeO.none _)
  | (with_reducible refine LeO.ite ?_ ?_)
  | (with_reducible refine LeO.bind ?_ (fun _ => ?_))
  | exact ih0 _ _ _ _
  | exact ih1 _ _ _ _ _ _ _ _ _
  | exact ih2 _ _ _ _ _ _ _ _ _
  | exact keystoneref4_All.mono _ _
  | exact keystoneref4_Entry.mono _ _ _ _ _ _
  | exact keystoneref4_Place.mono _ _ _
  | exact LeO.none _
  | refine LeO.ite ?_ ?_
  | refine LeO.bind ?_ (fun _ => ?_)
set_option maxHeartbeats 8000000 in
set_option maxRecDepth 100000 in
theorem keystoneref4_Check.calls (k : Nat) (A0 : Option Addr) (c0 : Nat) (l0 : List Int) (A1 : Option Addr) (c1 : Nat) (l1 : List (S50)) (a2 : Int) (r1 : Int) (r2 : Int) (w : World) (hr0 : Kd.C (Kd.int .u8) w A0 l0.length l0) (hc0 : l0.length ≤ c0) (hr1 : Kd.C k50 w A1 l1.length l1) (hc1 : l1.length ≤ c1) (h : keystoneref4_Check.f k l0 l1 a2 = some (r1, r2)) :
 Calls Tryd.prog 34 #[.slice A0 l0.length c0, .slice A1 l1.length c1, .int .i64 a2] w fun e w' => e = .returned (.tuple #[.int .i64 r1, .int .i64 r2]) ∧ Below w.heap.size w w' := by
 have hu77 := Tryd.underlying77
 have HR0 := Aside0.mk hr0
 have HC0 := Aside0.mk hc0
 clear hr0 hc0
 have HR1 := Aside0.mk hr1
 have HC1 := Aside0.mk hc1
 clear hr1 hc1
 have HB := Aside0.mk (Below.refl w.heap.size w)
 have H : (if (l0.length : Int) = 0 then (some (0, 46)) else (if (l0.length : Int) > 1024 then (some (0, 5)) else ((keystoneref4_All.f k l0).bind fun bt658 => (if bt658.2.2 = 0 then (keystoneref4_Check.l0 k l1 a2 bt658.1 0) else (some (bt658.2.1, bt658.2.2)))))) = some (r1, r2) := h
 clear h
 by_cases c4 : (l0.length : Int) = 0
 ·
  rw [if_pos c4] at H
  have c4b0 : ((l0.length : Int) == 0) = true := beq_iff_eq.mpr c4
  have c4b1 : ((l0.length : Int) != 0) = false := bne_eq_false_iff_eq.mpr c4
  clear c4
  simp only [Option.some.injEq, Prod.mk.injEq] at H
  obtain ⟨rfl, rfl⟩ := H
  go_enter Tryd.func34, Tryd.ntmps34
  go_wp2
  go_ret2
  exact ⟨E_, B_⟩
 ·
  rw [if_neg c4] at H
  have c4b0 : ((l0.length : Int) == 0) = false := beq_eq_false_iff_ne.mpr c4
  have c4b1 : ((l0.length : Int) != 0) = true := bne_iff_ne.mpr c4
  have c4b2 : ¬ (l0 = []) := fun h_ => c4 (by rw [h_]; rfl)
  by_cases c5 : (l0.length : Int) > 1024
  ·
   rw [if_pos c5] at H
   have c5b0 : decide (1024 < (l0.length : Int)) = true := decide_eq_true c5
   have c5b1 : decide (1024 < l0.length) = true := decide_eq_true (by omega)
   clear c5
   simp only [Option.some.injEq, Prod.mk.injEq] at H
   obtain ⟨rfl, rfl⟩ := H
   go_enter Tryd.func34, Tryd.ntmps34
   go_wp2
   go_ret2
   exact ⟨E_, B_⟩
  ·
   rw [if_neg c5] at H
   have c5b0 : decide (1024 < (l0.length : Int)) = false := decide_eq_false c5
   have c5b1 : decide (1024 < l0.length) = false := decide_eq_false (by omega)
   clear c5
   replace H := Option.bind_eq_some_iff.mp H
   obtain ⟨⟨t658, t659, t660⟩, A60, H⟩ := H
   replace H : (if t660 = 0 then (keystoneref4_Check.l0 k l1 a2 t658 0) else (some (t659, t660))) = some (r1, r2) := H
   have A6 := Aside0.mk A60
   clear A60
   by_cases c7 : t660 = 0
   ·
    rw [if_pos c7] at H
    have c7b0 : (t660 == 0) = true := beq_iff_eq.mpr c7
    have c7b1 : (t660 != 0) = false := bne_eq_false_iff_eq.mpr c7
    clear c7
    have H' := Aside0.mk H
    clear H
    go_enter Tryd.func34, Tryd.ntmps34
    go_wp2_with (first | ((with_reducible refine gt_ 67 ?_); refine gc_ 22 Tryd.func67 #[.slice A0 l0.length c0] ?_; (with_reducible refine (keystoneref4_All.calls k _ _ l0 t658 t659 t660 _ ?side1 ?side2 A6.out).mono ?_); (case side1 => exact Y_ HR0.out); (case side2 => exact HC0.out); rintro e w8 ⟨v661, rfl, ho0, hb⟩; refine ⟨_, rfl, ?_⟩; have HO662 := Aside0.mk (Kd.R_lower ho0 (below_size B_)); have HB := bs_ hb; (try clear hb); (try clear hb2); (try clear hk); (try clear hi); (try clear ho0)))
    go_loopg [11] k (fun kq v11 w' => ∃ (x11_1 : Int), v11 = .int .i64 x11_1 ∧ Aside0 (keystoneref4_Check.l0 kq l1 a2 t658 x11_1 = some (r1, r2)) ∧ Aside0 (kq ≤ k) ∧ Aside0 (Kd.R k77 77 w' w.heap.size (fun _ => True) v661 t658) ∧ Aside0 (Below w.heap.size w w'))
    case atStart => exact ⟨(0), R_, H', ⟨Nat.le_refl _⟩, ⟨by (with_reducible repeat (first | apply Kd.R_alloc | apply Kd.R_drewN | apply Kd.R_drew)); exact HO662.out⟩, ⟨B_⟩⟩
    case round =>
     clear H' c4 c4b0 c4b1 c4b2 c5b0 c5b1 c7b0 c7b1
     obtain ⟨x11_1, rfl, HA, HK1, HO_8, HB⟩ := hrel
     cases gk with
     | zero => exact absurd HA.out (by simp [keystoneref4_Check.l0])
     | succ k1 =>
      have H := HA.out
      clear HA
      simp only [keystoneref4_Check.l0] at H
      by_cases c9 : x11_1 < (t658.length : Int)
      ·
       rw [if_pos c9] at H
       have c9b0 : decide (x11_1 < (t658.length : Int)) = true := decide_eq_true c9
       clear c9
       by_cases c10 : 0 ≤ x11_1
       ·
        rw [if_pos c10] at H
        have c10b0 : decide (0 ≤ x11_1) = true := decide_eq_true c10
        clear c10
        have HC11 := Aside0.mk H
        clear H
        obtain ⟨Ao12, co12, eo12⟩ := Kd.R_slice HO_8.out
        subst eo12
        have p663 : 0 ≤ (x11_1 : Int) := of_decide_eq_true A_
        have q663 : x11_1 < (t658.length : Int) := of_decide_eq_true A_
        obtain ⟨ad663, e663, hx663_0, hx663_1, hx663_2, hx663_3⟩ := at_T77 (Kd.R_reads' HO_8.out).2.2 x11_1 p663 q663
        cases e663
        replace p663 := eq_true p663
        replace q663 := eq_true q663
        go_upto_region 12 with (first | ((with_reducible refine d_ 12 ?_); refine X_ 12 #[.int .i64 0, .int .i64 0, .int .i64 0, .int .i64 0] 77 ?_; intro gb664 hg w13 hbox hb; have HO_8 := Aside0.mk (Kd.R_below (Kd.R_elderB (Q_ HO_8.out) gb664 (Nat.le_of_eq hg.symm)) hb); have BK664 := Aside0.mk hbox; have GW664 := Aside0.mk (s_ hg); have GE664 := GW664; have HB := bs_ hb; clear hb hbox hg; obtain ⟨hcz14_0, hcz14_1, hcz14_2, hcz14_3, hfz14_0, hfz14_1, hfz14_2, hfz14_3⟩ := c4_ BK664.out))
        (try simp only [Act.put, List.setIfInBounds_toArray, List.set_cons_zero, List.set_cons_succ])
        go_cut [40] (fun v40 wc => ∃ (kq : Nat) (x40_10 : Bool), v40 = .bool x40_10 ∧ Aside0 (keystoneref4_Check.j1 kq l1 a2 t658 x11_1 x40_10 ((rd_T77 t658 x11_1).f0) ((rd_T77 t658 x11_1).f1) ((rd_T77 t658 x11_1).f2) ((rd_T77 t658 x11_1).f3) = some (r1, r2)) ∧ Aside0 (kq ≤ k1) ∧ Aside0 (Kd.R k77 77 wc w.heap.size (fun k_ => k_ ≠ gb664) (.slice (some ad663) t658.length co12) t658) ∧ Aside0 (wc.heap[gb664]? = some (.cells #[.int .i64 ((rd_T77 t658 x11_1).f0), .int .i64 ((rd_T77 t658 x11_1).f1), .int .i64 ((rd_T77 t658 x11_1).f2), .int .i64 ((rd_T77 t658 x11_1).f3)] 77 (0, 0))) ∧ Aside0 (Below w.heap.size w wc))
        case first =>
         have H := HC11.out
         clear HC11
         by_cases c15 : ((rd_T77 t658 x11_1).f1) = 3
         ·
          rw [if_pos c15] at H
          have c15b0 : (((rd_T77 t658 x11_1).f1) == 3) = true := beq_iff_eq.mpr c15
          have c15b1 : (((rd_T77 t658 x11_1).f1) != 3) = false := bne_eq_false_iff_eq.mpr c15
          clear c15
          (first | rw [c15b0] | (simp only [i64_w, i32_w]; rw [c15b0]) | skip)
          have H' := Aside0.mk H
          clear H
          obtain ⟨hcz16_0, hcz16_1, hcz16_2, hcz16_3, hfz16_0, hfz16_1, hfz16_2, hfz16_3⟩ := c4_ BK664.out
          go_wp2
          go_meet
          case rel => exact ⟨_, (decide (((rd_T77 t658 x11_1).f2) ≥ a2)), R_, H', ⟨by have := HK1.out; first | omega | exact Nat.le_refl _⟩, ⟨by (with_reducible repeat (first | apply Kd.R_alloc | apply Kd.R_drewN | apply Kd.R_drew)); exact Kd.R_mono (Kd.R_far (p := ⟨gb664, 3, none⟩) (Kd.R_far (p := ⟨gb664, 2, none⟩) (Kd.R_far (p := ⟨gb664, 1, none⟩) (Kd.R_far (p := ⟨gb664, 0, none⟩) (Kd.R_mono HO_8.out (fun k_ hk => (⟨hk, hk.2⟩ : _ ∧ k_ ≠ gb664))) (fun _ hk => hk.2) (.int .i64 ((rd_T77 t658 x11_1).f0))) (fun _ hk => hk.2) (.int .i64 ((rd_T77 t658 x11_1).f1))) (fun _ hk => hk.2) (.int .i64 ((rd_T77 t658 x11_1).f2))) (fun _ hk => hk.2) (.int .i64 ((rd_T77 t658 x11_1).f3))) (fun _ hk => hk.1.2)⟩, ⟨P_⟩, ⟨B_⟩⟩
         ·
          rw [if_neg c15] at H
          have c15b0 : (((rd_T77 t658 x11_1).f1) == 3) = false := beq_eq_false_iff_ne.mpr c15
          have c15b1 : (((rd_T77 t658 x11_1).f1) != 3) = true := bne_iff_ne.mpr c15
          (first | rw [c15b0] | (simp only [i64_w, i32_w]; rw [c15b0]) | skip)
          by_cases c17 : ((rd_T77 t658 x11_1).f1) = 4
          ·
           rw [if_pos c17] at H
           have c17b0 : (((rd_T77 t658 x11_1).f1) == 4) = true := beq_iff_eq.mpr c17
           have c17b1 : (((rd_T77 t658 x11_1).f1) != 4) = false := bne_eq_false_iff_eq.mpr c17
           clear c17
           have H' := Aside0.mk H
           clear H
           obtain ⟨hcz18_0, hcz18_1, hcz18_2, hcz18_3, hfz18_0, hfz18_1, hfz18_2, hfz18_3⟩ := c4_ BK664.out
           go_wp2
           go_meet
           case rel => exact ⟨_, (decide (((rd_T77 t658 x11_1).f2) ≥ a2)), R_, H', ⟨by have := HK1.out; first | omega | exact Nat.le_refl _⟩, ⟨by (with_reducible repeat (first | apply Kd.R_alloc | apply Kd.R_drewN | apply Kd.R_drew)); exact Kd.R_mono (Kd.R_far (p := ⟨gb664, 3, none⟩) (Kd.R_far (p := ⟨gb664, 2, none⟩) (Kd.R_far (p := ⟨gb664, 1, none⟩) (Kd.R_far (p := ⟨gb664, 0, none⟩) (Kd.R_mono HO_8.out (fun k_ hk => (⟨hk, hk.2⟩ : _ ∧ k_ ≠ gb664))) (fun _ hk => hk.2) (.int .i64 ((rd_T77 t658 x11_1).f0))) (fun _ hk => hk.2) (.int .i64 ((rd_T77 t658 x11_1).f1))) (fun _ hk => hk.2) (.int .i64 ((rd_T77 t658 x11_1).f2))) (fun _ hk => hk.2) (.int .i64 ((rd_T77 t658 x11_1).f3))) (fun _ hk => hk.1.2)⟩, ⟨P_⟩, ⟨B_⟩⟩
          ·
           rw [if_neg c17] at H
           have c17b0 : (((rd_T77 t658 x11_1).f1) == 4) = false := beq_eq_false_iff_ne.mpr c17
           have c17b1 : (((rd_T77 t658 x11_1).f1) != 4) = true := bne_iff_ne.mpr c17
           have H' := Aside0.mk H
           clear H
           obtain ⟨hcz19_0, hcz19_1, hcz19_2, hcz19_3, hfz19_0, hfz19_1, hfz19_2, hfz19_3⟩ := c4_ BK664.out
           go_wp2
           go_meet
           case rel => exact ⟨_, (false), R_, H', ⟨by have := HK1.out; first | omega | exact Nat.le_refl _⟩, ⟨by (with_reducible repeat (first | apply Kd.R_alloc | apply Kd.R_drewN | apply Kd.R_drew)); exact Kd.R_mono (Kd.R_far (p := ⟨gb664, 3, none⟩) (Kd.R_far (p := ⟨gb664, 2, none⟩) (Kd.R_far (p := ⟨gb664, 1, none⟩) (Kd.R_far (p := ⟨gb664, 0, none⟩) (Kd.R_mono HO_8.out (fun k_ hk => (⟨hk, hk.2⟩ : _ ∧ k_ ≠ gb664))) (fun _ hk => hk.2) (.int .i64 ((rd_T77 t658 x11_1).f0))) (fun _ hk => hk.2) (.int .i64 ((rd_T77 t658 x11_1).f1))) (fun _ hk => hk.2) (.int .i64 ((rd_T77 t658 x11_1).f2))) (fun _ hk => hk.2) (.int .i64 ((rd_T77 t658 x11_1).f3))) (fun _ hk => hk.1.2)⟩, ⟨P_⟩, ⟨B_⟩⟩
        case rest =>
         clear HC11 c9b0 c10b0 hcz14_0 hcz14_1 hcz14_2 hcz14_3 hfz14_0 hfz14_1 hfz14_2 hfz14_3 hx663_0 hx663_1 hx663_2 hx663_3 p663 q663
         obtain ⟨kq, x40_10, rfl, HA, HJ10, HO_8, BK664, HB⟩ := hcut
         cases kq with
         | zero => exact absurd HA.out (by simp [keystoneref4_Check.j1])
         | succ kj10 =>
          have H := HA.out
          clear HA
          simp only [keystoneref4_Check.j1] at H
          by_cases c20 : x40_10 = true
          ·
           subst c20
           have H1 : (some (((rd_T77 t658 x11_1).f0), 43)) = some (r1, r2) := by rw [if_pos rfl] at H; exact H
           clear H
           have H := H1
           clear H1
           simp only [Option.some.injEq, Prod.mk.injEq] at H
           obtain ⟨rfl, rfl⟩ := H
           obtain ⟨hcz21_0, hcz21_1, hcz21_2, hcz21_3, hfz21_0, hfz21_1, hfz21_2, hfz21_3⟩ := c4_ BK664.out
           go_wp2
           go_ret2
           exact ⟨E_, B_⟩
          ·
           replace c20 := Bool.eq_false_iff.mpr c20
           subst c20
           have H1 : ((keystoneref4_Jumps.f ((rd_T77 t658 x11_1).f1)).bind fun t665 => (if t665 = true then ((keystoneref4_Place.f kj10 t658 ((rd_T77 t658 x11_1).f2)).bind fun t666 => (keystoneref4_Check.j2 kj10 l1 a2 t658 x11_1 (decide (t666 < 0)) ((rd_T77 t658 x11_1).f0) ((rd_T77 t658 x11_1).f1) ((rd_T77 t658 x11_1).f2) ((rd_T77 t658 x11_1).f3))) else (keystoneref4_Check.j2 kj10 l1 a2 t658 x11_1 false ((rd_T77 t658 x11_1).f0) ((rd_T77 t658 x11_1).f1) ((rd_T77 t658 x11_1).f2) ((rd_T77 t658 x11_1).f3)))) = some (r1, r2) := by rw [if_neg (show ¬ (false = true) by decide)] at H; exact H
           clear H
           have H := H1
           clear H1
           have HC22 := Aside0.mk H
           clear H
           go_upto_region 14 with (fail)
           go_cut [57] (fun v57 wc => ∃ (kq : Nat) (x57_21 : Bool), v57 = .bool x57_21 ∧ Aside0 (keystoneref4_Check.j2 kq l1 a2 t658 x11_1 x57_21 ((rd_T77 t658 x11_1).f0) ((rd_T77 t658 x11_1).f1) ((rd_T77 t658 x11_1).f2) ((rd_T77 t658 x11_1).f3) = some (r1, r2)) ∧ Aside0 (kq ≤ kj10) ∧ Aside0 (Kd.R k77 77 wc w.heap.size (fun k_ => k_ ≠ gb664) (.slice (some ad663) t658.length co12) t658) ∧ Aside0 (wc.heap[gb664]? = some (.cells #[.int .i64 ((rd_T77 t658 x11_1).f0), .int .i64 ((rd_T77 t658 x11_1).f1), .int .i64 ((rd_T77 t658 x11_1).f2), .int .i64 ((rd_T77 t658 x11_1).f3)] 77 (0, 0))) ∧ Aside0 (Below w.heap.size w wc))
           case first =>
            have H := HC22.out
            clear HC22
            replace H := Option.bind_eq_some_iff.mp H
            obtain ⟨t665, A230, H⟩ := H
            replace H : (if t665 = true then ((keystoneref4_Place.f kj10 t658 ((rd_T77 t658 x11_1).f2)).bind fun t666 => (keystoneref4_Check.j2 kj10 l1 a2 t658 x11_1 (decide (t666 < 0)) ((rd_T77 t658 x11_1).f0) ((rd_T77 t658 x11_1).f1) ((rd_T77 t658 x11_1).f2) ((rd_T77 t658 x11_1).f3))) else (keystoneref4_Check.j2 kj10 l1 a2 t658 x11_1 false ((rd_T77 t658 x11_1).f0) ((rd_T77 t658 x11_1).f1) ((rd_T77 t658 x11_1).f2) ((rd_T77 t658 x11_1).f3))) = some (r1, r2) := H
            have A23 := Aside0.mk A230
            clear A230
            by_cases c24 : t665 = true
            ·
             subst c24
             have H1 : ((keystoneref4_Place.f kj10 t658 ((rd_T77 t658 x11_1).f2)).bind fun t666 => (keystoneref4_Check.j2 kj10 l1 a2 t658 x11_1 (decide (t666 < 0)) ((rd_T77 t658 x11_1).f0) ((rd_T77 t658 x11_1).f1) ((rd_T77 t658 x11_1).f2) ((rd_T77 t658 x11_1).f3))) = some (r1, r2) := by rw [if_pos rfl] at H; exact H
             clear H
             have H := H1
             clear H1
             replace H := Option.bind_eq_some_iff.mp H
             obtain ⟨t666, A250, H⟩ := H
             replace H : (keystoneref4_Check.j2 kj10 l1 a2 t658 x11_1 (decide (t666 < 0)) ((rd_T77 t658 x11_1).f0) ((rd_T77 t658 x11_1).f1) ((rd_T77 t658 x11_1).f2) ((rd_T77 t658 x11_1).f3)) = some (r1, r2) := H
             have A25 := Aside0.mk A250
             clear A250
             have H' := Aside0.mk H
             clear H
             obtain ⟨hcz26_0, hcz26_1, hcz26_2, hcz26_3, hfz26_0, hfz26_1, hfz26_2, hfz26_3⟩ := c4_ BK664.out
             go_wp2_with (first | ((with_reducible refine gt_ 68 ?_); refine gd_ 60 Tryd.func68 (keystoneref4_Jumps.calls ((rd_T77 t658 x11_1).f1) true _ A23.out) ?_; rintro w' ⟨nd, rfl⟩) | (go_at_call 69; (with_reducible refine (keystoneref4_Place.calls kj10 _ _ t658 ((rd_T77 t658 x11_1).f2) t666 _ ?side1 ?side2 A25.out).mono ?_); (case side1 => repeat (first | exact (Kd.R_reads' HO_8.out).2.2 | (with_reducible refine Kd.C_alloc ?_ _) | (with_reducible refine Kd.C_drewN ?_ _) | (with_reducible refine Kd.C_drew ?_))); (case side2 => exact (Kd.R_reads' HO_8.out).2.1); rintro e w' ⟨rfl, ⟨nd, rfl⟩⟩))
             go_meet
             case rel => exact ⟨_, (decide (t666 < 0)), R_, H', ⟨by have := HK1.out; have := HJ10.out; first | omega | exact Nat.le_refl _⟩, ⟨by (with_reducible repeat (first | apply Kd.R_alloc | apply Kd.R_drewN | apply Kd.R_drew)); exact HO_8.out⟩, ⟨M_⟩, ⟨B_⟩⟩
            ·
             replace c24 := Bool.eq_false_iff.mpr c24
             subst c24
             have H1 : (keystoneref4_Check.j2 kj10 l1 a2 t658 x11_1 false ((rd_T77 t658 x11_1).f0) ((rd_T77 t658 x11_1).f1) ((rd_T77 t658 x11_1).f2) ((rd_T77 t658 x11_1).f3)) = some (r1, r2) := by rw [if_neg (show ¬ (false = true) by decide)] at H; exact H
             clear H
             have H := H1
             clear H1
             have H' := Aside0.mk H
             clear H
             obtain ⟨hcz27_0, hcz27_1, hcz27_2, hcz27_3, hfz27_0, hfz27_1, hfz27_2, hfz27_3⟩ := c4_ BK664.out
             go_wp2_with (first | ((with_reducible refine gt_ 68 ?_); refine gd_ 60 Tryd.func68 (keystoneref4_Jumps.calls ((rd_T77 t658 x11_1).f1) false _ A23.out) ?_; rintro w' ⟨nd, rfl⟩))
             go_meet
             case rel => exact ⟨_, (false), R_, H', ⟨by have := HK1.out; have := HJ10.out; first | omega | exact Nat.le_refl _⟩, ⟨by (with_reducible repeat (first | apply Kd.R_alloc | apply Kd.R_drewN | apply Kd.R_drew)); exact HO_8.out⟩, ⟨M_⟩, ⟨B_⟩⟩
           case rest =>
            clear HC22
            obtain ⟨kq, x57_21, rfl, HA, HJ21, HO_8, BK664, HB⟩ := hcut
            cases kq with
            | zero => exact absurd HA.out (by simp [keystoneref4_Check.j2])
            | succ kj21 =>
             have H := HA.out
             clear HA
             simp only [keystoneref4_Check.j2] at H
             by_cases c28 : x57_21 = true
             ·
              subst c28
              have H1 : (some (((rd_T77 t658 x11_1).f0), 18)) = some (r1, r2) := by rw [if_pos rfl] at H; exact H
              clear H
              have H := H1
              clear H1
              simp only [Option.some.injEq, Prod.mk.injEq] at H
              obtain ⟨rfl, rfl⟩ := H
              obtain ⟨hcz29_0, hcz29_1, hcz29_2, hcz29_3, hfz29_0, hfz29_1, hfz29_2, hfz29_3⟩ := c4_ BK664.out
              go_wp2
              go_ret2
              exact ⟨E_, B_⟩
             ·
              replace c28 := Bool.eq_false_iff.mpr c28
              subst c28
              have H1 : ((keystoneref4_Entry.f kj21 ((rd_T77 t658 x11_1).f0) ((rd_T77 t658 x11_1).f1) ((rd_T77 t658 x11_1).f2) ((rd_T77 t658 x11_1).f3) l1).bind fun t667 => (if t667 = 0 then (keystoneref4_Check.l0 kj21 l1 a2 t658 (wrap64 (x11_1 + 1))) else (some (((rd_T77 t658 x11_1).f0), t667)))) = some (r1, r2) := by rw [if_neg (show ¬ (false = true) by decide)] at H; exact H
              clear H
              have H := H1
              clear H1
              replace H := Option.bind_eq_some_iff.mp H
              obtain ⟨t667, A300, H⟩ := H
              replace H : (if t667 = 0 then (keystoneref4_Check.l0 kj21 l1 a2 t658 (wrap64 (x11_1 + 1))) else (some (((rd_T77 t658 x11_1).f0), t667))) = some (r1, r2) := H
              have A30 := Aside0.mk A300
              clear A300
              by_cases c31 : t667 = 0
              ·
               rw [if_pos c31] at H
               have c31b0 : (t667 == 0) = true := beq_iff_eq.mpr c31
               have c31b1 : (t667 != 0) = false := bne_eq_false_iff_eq.mpr c31
               clear c31
               have H' := Aside0.mk H
               clear H
               obtain ⟨hcz32_0, hcz32_1, hcz32_2, hcz32_3, hfz32_0, hfz32_1, hfz32_2, hfz32_3⟩ := c4_ BK664.out
               go_wp2_with (first | ((with_reducible refine gt_ 70 ?_); refine gd_ 72 Tryd.func70 (keystoneref4_Entry.calls kj21 ((rd_T77 t658 x11_1).f0) ((rd_T77 t658 x11_1).f1) ((rd_T77 t658 x11_1).f2) ((rd_T77 t658 x11_1).f3) _ _ l1 t667 _ (Y_ (Kd.C_below HR1.out HB.out)) HC1.out A30.out) ?_; intro w33 hb; have HO_8 := rb_ HO_8 hb; have BK664 := kb_ BK664 hb; have HB := bs_ hb; (try clear hb); (try clear hb2); (try clear hk); (try clear hi)))
               go_roundg kj21
               case measure => have := HK1.out; have := HJ10.out; have := HJ21.out; omega
               case rel => exact ⟨(wrap64 (x11_1 + 1)), R_, H', ⟨by have := HK1.out; have := HJ10.out; have := HJ21.out; omega⟩, ⟨by (with_reducible repeat (first | apply Kd.R_alloc | apply Kd.R_drewN | apply Kd.R_drew)); exact Kd.R_mono HO_8.out (fun _ hk => trivial)⟩, ⟨B_⟩⟩
              ·
               rw [if_neg c31] at H
               have c31b0 : (t667 == 0) = false := beq_eq_false_iff_ne.mpr c31
               have c31b1 : (t667 != 0) = true := bne_iff_ne.mpr c31
               simp only [Option.some.injEq, Prod.mk.injEq] at H
               obtain ⟨rfl, rfl⟩ := H
               obtain ⟨hcz34_0, hcz34_1, hcz34_2, hcz34_3, hfz34_0, hfz34_1, hfz34_2, hfz34_3⟩ := c4_ BK664.out
               go_wp2_with (first | ((with_reducible refine gt_ 70 ?_); refine gd_ 72 Tryd.func70 (keystoneref4_Entry.calls kj21 ((rd_T77 t658 x11_1).f0) ((rd_T77 t658 x11_1).f1) ((rd_T77 t658 x11_1).f2) ((rd_T77 t658 x11_1).f3) _ _ l1 t667 _ (Y_ (Kd.C_below HR1.out HB.out)) HC1.out A30.out) ?_; intro w35 hb; have HO_8 := rb_ HO_8 hb; have BK664 := kb_ BK664 hb; have HB := bs_ hb; (try clear hb); (try clear hb2); (try clear hk); (try clear hi); obtain ⟨hcz36_0, hcz36_1, hcz36_2, hcz36_3, hfz36_0, hfz36_1, hfz36_2, hfz36_3⟩ := c4_ BK664.out))
               go_ret2
               exact ⟨E_, B_⟩
       ·
        rw [if_neg c10] at H
        exact absurd H (by simp)
      ·
       rw [if_neg c9] at H
       have c9b0 : decide (x11_1 < (t658.length : Int)) = false := decide_eq_false c9
       clear c9
       simp only [Option.some.injEq, Prod.mk.injEq] at H
       obtain ⟨rfl, rfl⟩ := H
       obtain ⟨Ao37, co37, eo37⟩ := Kd.R_slice HO_8.out
       subst eo37
       go_wp2
       go_ret2
       exact ⟨E_, B_⟩
   ·
    rw [if_neg c7] at H
    have c7b0 : (t660 == 0) = false := beq_eq_false_iff_ne.mpr c7
    have c7b1 : (t660 != 0) = true := bne_iff_ne.mpr c7
    simp only [Option.some.injEq, Prod.mk.injEq] at H
    obtain ⟨rfl, rfl⟩ := H
    go_enter Tryd.func34, Tryd.ntmps34
    go_wp2_with (first | ((with_reducible refine gt_ 67 ?_); refine gc_ 22 Tryd.func67 #[.slice A0 l0.length c0] ?_; (with_reducible refine (keystoneref4_All.calls k _ _ l0 t658 t659 t660 _ ?side1 ?side2 A6.out).mono ?_); (case side1 => exact Y_ HR0.out); (case side2 => exact HC0.out); rintro e w38 ⟨v661, rfl, ho0, hb⟩; refine ⟨_, rfl, ?_⟩; have HO662 := Aside0.mk (Kd.R_lower ho0 (below_size B_)); have HB := bs_ hb; (try clear hb); (try clear hb2); (try clear hk); (try clear hi); (try clear ho0)))
    go_ret2
    exact ⟨E_, B_⟩
end Go.Proofs.YtldejfkplnejjaaDoor.P
