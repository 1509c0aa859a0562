-- Written by my program xprint.py (a patched run of the kit's print). Lean checks it.
import Derived.Test.YtlajkmnmooilmaaDoorP0
import Derived.Test.YtlajkmnmooilmaaDoorP3
import Derived.Test.YtlajkmnmooilmaaDoorP13
import Derived.Test.YtlajkmnmooilmaaDoorP14
import Derived.Test.YtlajkmnmooilmaaDoorP19
import Derived.Test.YtlajkmnmooilmaaDoorP22
import Derived.Test.YtlajkmnmooilmaaDoorExt
namespace Go.Proofs.YtlajkmnmooilmaaDoor.P
open Go.RowKit Go.Proofs.YtlajkmnmooilmaaDoorW.PrintWords Go.Proofs.YtlajkmnmooilmaaDoorW.PrintLast Go.Proofs.YtlajkmnmooilmaaDoorW.PrintMore
attribute [local go_sem] max2_int min2_int max_two min_two max_three min_three max_four min_four   -- for this text's walks alone
set_option linter.unusedVariables false
set_option linter.unusedSimpArgs false

/-! ### keystonelaw2_DescSame: function 13 -/
mutual
def keystonelaw2_DescSame.j0 : Nat → Bool → List (S26) → Bool → Int → ByteArray → List (S26) → Bool → Int → ByteArray → Option (Bool)
  | 0, _, _, _, _, _, _, _, _, _ => none
  | k + 1, x21, x441000, x441001, x441002, x441003, x442000, x442001, x442002, x442003 => if x21 = true then (some true) else ((desc_SigText.f k x441000 x441001 x441002 x441003).bind fun bt445 => ((desc_SigText.f k x442000 x442001 x442002 x442003).bind fun bt447 => ((desc_Same.f k x441000 x441001 x441002 x441003 x441000 x441001 x441002 x441003).bind fun t449 => (if t449 = true then ((desc_Same.f k x441000 x441001 x441002 x441003 x442000 x442001 x442002 x442003).bind fun t450 => ((desc_Same.f k x442000 x442001 x442002 x442003 x441000 x441001 x441002 x441003).bind fun t451 => (keystonelaw2_DescSame.j1 k bt445.1 bt445.2 bt447.1 bt447.2 (t450 != t451) x441000 x441001 x441002 x441003 x442000 x442001 x442002 x442003))) else (keystonelaw2_DescSame.j1 k bt445.1 bt445.2 bt447.1 bt447.2 true x441000 x441001 x441002 x441003 x442000 x442001 x442002 x442003)))))
def keystonelaw2_DescSame.j1 : Nat → ByteArray → Int → ByteArray → Int → Bool → List (S26) → Bool → Int → ByteArray → List (S26) → Bool → Int → ByteArray → Option (Bool)
  | 0, _, _, _, _, _, _, _, _, _, _, _, _, _ => none
  | k + 1, x5, x6, x7, x8, x44, x441000, x441001, x441002, x441003, x442000, x442001, x442002, x442003 => if x44 = true then (some false) else (if x6 = 0 then (keystonelaw2_DescSame.j2 k x5 x7 (x8 != 0) x441000 x441001 x441002 x441003 x442000 x442001 x442002 x442003) else (keystonelaw2_DescSame.j2 k x5 x7 true x441000 x441001 x441002 x441003 x442000 x442001 x442002 x442003))
def keystonelaw2_DescSame.j2 : Nat → ByteArray → ByteArray → Bool → List (S26) → Bool → Int → ByteArray → List (S26) → Bool → Int → ByteArray → Option (Bool)
  | 0, _, _, _, _, _, _, _, _, _, _, _ => none
  | k + 1, x5, x7, x50, x441000, x441001, x441002, x441003, x442000, x442001, x442002, x442003 => if x50 = true then (some true) else ((some (([] : List (S26)) : List (S26))).bind fun y452 => (if y452.length + x441000.length < 5864062014805 then ((some (y452 ++ x441000 : List (S26))).bind fun y455 => (if x441001 = true then ((desc_Make.f k x441001 y455).bind fun bt458 => ((desc_Same.f k x441000 x441001 x441002 x441003 x442000 x442001 x442002 x442003).bind fun t466 => (if (t466 == (x5.toList == x7.toList)) = true then (if bt458.2.2.2.2 = 0 then ((desc_Same.f k bt458.1 bt458.2.1 bt458.2.2.1 bt458.2.2.2.1 x441000 x441001 x441002 x441003).bind fun t467 => (some t467)) else (some false)) else (some false)))) else (if y455.length < 5864062014805 then ((desc_Make.f k x441001 (y455 ++ [(⟨x441002, x441003⟩ : S26)])).bind fun bt471 => ((desc_Same.f k x441000 x441001 x441002 x441003 x442000 x442001 x442002 x442003).bind fun t479 => (if (t479 == (x5.toList == x7.toList)) = true then (if bt471.2.2.2.2 = 0 then ((desc_Same.f k bt471.1 bt471.2.1 bt471.2.2.1 bt471.2.2.2.1 x441000 x441001 x441002 x441003).bind fun t480 => (some t480)) else (some false)) else (some false)))) else (none)))) else (none)))
end
def keystonelaw2_DescSame.f (k : Nat) (l0_0 : List (S26)) (a0_1 : Bool) (a0_2 : Int) (a0_3 : ByteArray) (l1_0 : List (S26)) (a1_1 : Bool) (a1_2 : Int) (a1_3 : ByteArray) : Option (Bool) := (keystonelaw2_known.f k).bind fun t442 => (if t442 = true then ((keystonelaw2_few.f l0_0 a0_1 a0_2 a0_3).bind fun t443 => (if t443 = true then ((keystonelaw2_few.f l1_0 a1_1 a1_2 a1_3).bind fun t444 => (keystonelaw2_DescSame.j0 k (!t444) l0_0 a0_1 a0_2 a0_3 l1_0 a1_1 a1_2 a1_3)) else (keystonelaw2_DescSame.j0 k true l0_0 a0_1 a0_2 a0_3 l1_0 a1_1 a1_2 a1_3))) else (some false))
theorem keystonelaw2_DescSame.mono_l : ∀ k, (∀ y0 y1 y2 y3 y4 y5 y6 y7 y8, LeO (keystonelaw2_DescSame.j0 k y0 y1 y2 y3 y4 y5 y6 y7 y8) (keystonelaw2_DescSame.j0 (k + 1) y0 y1 y2 y3 y4 y5 y6 y7 y8)) ∧ (∀ y0 y1 y2 y3 y4 y5 y6 y7 y8 y9 y10 y11 y12, LeO (keystonelaw2_DescSame.j1 k y0 y1 y2 y3 y4 y5 y6 y7 y8 y9 y10 y11 y12) (keystonelaw2_DescSame.j1 (k + 1) y0 y1 y2 y3 y4 y5 y6 y7 y8 y9 y10 y11 y12)) ∧ (∀ y0 y1 y2 y3 y4 y5 y6 y7 y8 y9 y10, LeO (keystonelaw2_DescSame.j2 k y0 y1 y2 y3 y4 y5 y6 y7 y8 y9 y10) (keystonelaw2_DescSame.j2 (k + 1) y0 y1 y2 y3 y4 y5 y6 y7 y8 y9 y10))
  | 0 => ⟨fun _ _ _ _ _ _ _ _ _ r h => by simp [keystonelaw2_DescSame.j0] at h, fun _ _ _ _ _ _ _ _ _ _ _ _ _ r h => by simp [keystonelaw2_DescSame.j1] at h, fun _ _ _ _ _ _ _ _ _ _ _ r h => by simp [keystonelaw2_DescSame.j2] at h⟩
  | k + 1 => by
    obtain ⟨ih0, ih1, ih2⟩ := keystonelaw2_DescSame.mono_l k
    refine ⟨?_, ?_, ?_⟩
    · intro y0 y1 y2 y3 y4 y5 y6 y7 y8
      unfold keystonelaw2_DescSame.j0
      repeat' first
      | (with_reducible exact ih0 _ _ _ _ _ _ _ _ _)
      | (with_reducible exact ih1 _ _ _ _ _ _ _ _ _ _ _ _ _)
      | (with_reducible exact ih2 _ _ _ _ _ _ _ _ _ _ _)
      | (with_reducible exact desc_Make.mono _ _ _)
      | (with_reducible exact desc_Same.mono _ _ _ _ _ _ _ _ _)
      | (with_reducible exact desc_SigText.mono _ _ _ _ _)
      | (with_reducible exact keystonelaw2_known.mono _)
      | (with_reducible exact LeO.refl _)
      | (with_reducible exact LeO.none _)
      | (with_reducible refine LeO.ite ?_ ?_)
      | (with_reducible refine LeO.bind ?_ (fun _ => ?_))
      | exact ih0 _ _ _ _ _ _ _ _ _
      | exact ih1 _ _ _ _ _ _ _ _ _ _ _ _ _
      | exact ih2 _ _ _ _ _ _ _ _ _ _ _
      | exact desc_Make.mono _ _ _
      | exact desc_Same.mono _ _ _ _ _ _ _ _ _
      | exact desc_SigText.mono _ _ _ _ _
      | exact keystonelaw2_known.mono _
      | exact LeO.none _
      | refine LeO.ite ?_ ?_
      | refine LeO.bind ?_ (fun _ => ?_)
    · intro y0 y1 y2 y3 y4 y5 y6 y7 y8 y9 y10 y11 y12
      unfold keystonelaw2_DescSame.j1
      repeat' first
      | (with_reducible exact ih0 _ _ _ _ _ _ _ _ _)
      | (with_reducible exact ih1 _ _ _ _ _ _ _ _ _ _ _ _ _)
      | (with_reducible exact ih2 _ _ _ _ _ _ _ _ _ _ _)
      | (with_reducible exact desc_Make.mono _ _ _)
      | (with_reducible exact desc_Same.mono _ _ _ _ _ _ _ _ _)
      | (with_reducible exact desc_SigText.mono _ _ _ _ _)
      | (with_reducible exact keystonelaw2_known.mono _)
      | (with_reducible exact LeO.refl _)
      | (with_reducible exact LeO.none _)
      | (with_reducible refine LeO.ite ?_ ?_)
      | (with_reducible refine LeO.bind ?_ (fun _ => ?_))
      | exact ih0 _ _ _ _ _ _ _ _ _
      | exact ih1 _ _ _ _ _ _ _ _ _ _ _ _ _
      | exact ih2 _ _ _ _ _ _ _ _ _ _ _
      | exact desc_Make.mono _ _ _
      | exact desc_Same.mono _ _ _ _ _ _ _ _ _
      | exact desc_SigText.mono _ _ _ _ _
      | exact keystonelaw2_known.mono _
      | exact LeO.none _
      | refine LeO.ite ?_ ?_
      | refine LeO.bind ?_ (fun _ => ?_)
    · intro y0 y1 y2 y3 y4 y5 y6 y7 y8 y9 y10
      unfold keystonelaw2_DescSame.j2
      repeat' first
      | (with_reducible exact ih0 _ _ _ _ _ _ _ _ _)
      | (with_reducible exact ih1 _ _ _ _ _ _ _ _ _ _ _ _ _)
      | (with_reducible exact ih2 _ _ _ _ _ _ _ _ _ _ _)
      | (with_reducible exact desc_Make.mono _ _ _)
      | (with_reducible exact desc_Same.mono _ _ _ _ _ _ _ _ _)
      | (with_reducible exact desc_SigText.mono _ _ _ _ _)
      | (with_reducible exact keystonelaw2_known.mono _)
      | (with_reducible exact LeO.refl _)
      | (with_reducible exact LeO.none _)
      | (with_reducible refine LeO.ite ?_ ?_)
      | (with_reducible refine LeO.bind ?_ (fun _ => ?_))
      | exact ih0 _ _ _ _ _ _ _ _ _
      | exact ih1 _ _ _ _ _ _ _ _ _ _ _ _ _
      | exact ih2 _ _ _ _ _ _ _ _ _ _ _
      | exact desc_Make.mono _ _ _
      | exact desc_Same.mono _ _ _ _ _ _ _ _ _
      | exact desc_SigText.mono _ _ _ _ _
      | exact keystonelaw2_known.mono _
      | exact LeO.none _
      | refine LeO.ite ?_ ?_
      | refine LeO.bind ?_ (fun _ => ?_)
theorem keystonelaw2_DescSame.mono : ∀ a0 a1 a2 a3 a4 a5 a6 a7 k, LeO (keystonelaw2_DescSame.f k a0 a1 a2 a3 a4 a5 a6 a7) (keystonelaw2_DescSame.f (k + 1) a0 a1 a2 a3 a4 a5 a6 a7) := by
  intro a0 a1 a2 a3 a4 a5 a6 a7 k
  obtain ⟨ih0, ih1, ih2⟩ := keystonelaw2_DescSame.mono_l k
  unfold keystonelaw2_DescSame.f
  repeat' first
      | (with_reducible exact ih0 _ _ _ _ _ _ _ _ _)
      | (with_reducible exact ih1 _ _ _ _ _ _ _ _ _ _ _ _ _)
      | (with_reducible exact ih2 _ _ _ _ _ _ _ _ _ _ _)
      | (with_reducible exact desc_Make.mono _ _ _)
      | (with_reducible exact desc_Same.mono _ _ _ _ _ _ _ _ _)
      | (with_reducible exact desc_SigText.mono _ _ _ _ _)
      | (with_reducible exact keystonelaw2_known.mono _)
      | (with_reducible exact LeO.refl _)
      | (with_reducible exact LeO.none _)
      | (with_reducible refine LeO.ite ?_ ?_)
      | (with_reducible refine LeO.bind ?_ (fun _ => ?_))
      | exact ih0 _ _ _ _ _ _ _ _ _
      | exact ih1 _ _ _ _ _ _ _ _ _ _ _ _ _
      | exact ih2 _ _ _ _ _ _ _ _ _ _ _
      | exact desc_Make.mono _ _ _
      | exact desc_Same.mono _ _ _ _ _ _ _ _ _
      | exact desc_SigText.mono _ _ _ _ _
      | exact keystonelaw2_known.mono _
      | exact LeO.none _
      | refine LeO.ite ?_ ?_
      | refine LeO.bind ?_ (fun _ => ?_)
def keystonelaw2_DescSame.T7 : Bool × List (List Nat × List Nat) := (true, [([], []), ([], []), ([0, 1], [0, 1]), ([2], [2]), ([3, 2], [3]), ([4], [4]), ([4], [4]), ([5, 6, 4, 4], [4, 5, 6]), ([4], [4]), ([4], [4]), ([8, 9, 7, 4], [4, 8, 9]), ([7, 10, 4], [4, 7, 10]), ([4, 11], [4, 11])])
def keystonelaw2_DescSame.B7 : List Nat := [0, 0, 3, 7, 15, 31, 31, 127, 31, 31, 1023, 2047, 4095]
theorem keystonelaw2_DescSame.tab7 : rtab .any (opsOf Tryd.f13 7) = keystonelaw2_DescSame.T7 := by kernel_rfl
theorem keystonelaw2_DescSame.bits7 : waitsOk keystonelaw2_DescSame.T7.2 keystonelaw2_DescSame.B7 = true := by kernel_rfl
set_option maxHeartbeats 8000000 in
set_option maxRecDepth 100000 in
theorem keystonelaw2_DescSame.calls (k : Nat) (A0_0 : Option Addr) (c0_0 : Nat) (l0_0 : List (S26)) (a0_1 : Bool) (a0_2 : Int) (a0_3 : ByteArray) (A1_0 : Option Addr) (c1_0 : Nat) (l1_0 : List (S26)) (a1_1 : Bool) (a1_2 : Int) (a1_3 : ByteArray) (r : Bool) (w : World) (hr0_0 : Kd.C k26 w A0_0 l0_0.length l0_0) (hc0_0 : l0_0.length ≤ c0_0) (hr1_0 : Kd.C k26 w A1_0 l1_0.length l1_0) (hc1_0 : l1_0.length ≤ c1_0) (hT : r = true) (h : keystonelaw2_DescSame.f k l0_0 a0_1 a0_2 a0_3 l1_0 a1_1 a1_2 a1_3 = some r) :
    Calls Tryd.prog 13 #[.agg #[.slice A0_0 l0_0.length c0_0, .bool a0_1, .int .i64 a0_2, .string a0_3], .agg #[.slice A1_0 l1_0.length c1_0, .bool a1_1, .int .i64 a1_2, .string a1_3]] w fun e w' => e = .returned (.bool r) ∧ Below w.heap.size w w' := by
  have hu32 := Tryd.underlying32
  have hu26 := Tryd.underlying26
  have HR0_0 := Aside0.mk hr0_0
  have HC0_0 := Aside0.mk hc0_0
  clear hr0_0 hc0_0
  have HR1_0 := Aside0.mk hr1_0
  have HC1_0 := Aside0.mk hc1_0
  clear hr1_0 hc1_0
  have HB := Aside0.mk (Below.refl w.heap.size w)
  have H : ((keystonelaw2_known.f k).bind fun t442 => (if t442 = true then ((keystonelaw2_few.f l0_0 a0_1 a0_2 a0_3).bind fun t443 => (if t443 = true then ((keystonelaw2_few.f l1_0 a1_1 a1_2 a1_3).bind fun t444 => (keystonelaw2_DescSame.j0 k (!t444) l0_0 a0_1 a0_2 a0_3 l1_0 a1_1 a1_2 a1_3)) else (keystonelaw2_DescSame.j0 k true l0_0 a0_1 a0_2 a0_3 l1_0 a1_1 a1_2 a1_3))) else (some false))) = some r := h
  clear h
  have HT := Aside0.mk hT
  clear hT
  replace H := Option.bind_eq_some_iff.mp H
  obtain ⟨t442, A30, H⟩ := H
  replace H : (if t442 = true then ((keystonelaw2_few.f l0_0 a0_1 a0_2 a0_3).bind fun t443 => (if t443 = true then ((keystonelaw2_few.f l1_0 a1_1 a1_2 a1_3).bind fun t444 => (keystonelaw2_DescSame.j0 k (!t444) l0_0 a0_1 a0_2 a0_3 l1_0 a1_1 a1_2 a1_3)) else (keystonelaw2_DescSame.j0 k true l0_0 a0_1 a0_2 a0_3 l1_0 a1_1 a1_2 a1_3))) else (some false)) = some r := H
  have A3 := Aside0.mk A30
  clear A30
  by_cases c4 : t442 = true
  · subst c4
    have H1 : ((keystonelaw2_few.f l0_0 a0_1 a0_2 a0_3).bind fun t443 => (if t443 = true then ((keystonelaw2_few.f l1_0 a1_1 a1_2 a1_3).bind fun t444 => (keystonelaw2_DescSame.j0 k (!t444) l0_0 a0_1 a0_2 a0_3 l1_0 a1_1 a1_2 a1_3)) else (keystonelaw2_DescSame.j0 k true l0_0 a0_1 a0_2 a0_3 l1_0 a1_1 a1_2 a1_3))) = some r := by rw [if_pos rfl] at H; exact H
    clear H
    have H := H1
    clear H1
    have HC5 := Aside0.mk H
    clear H
    go_enter Tryd.func13, Tryd.ntmps13
    go_upto_region 3 with (first | ((with_reducible refine gate_dst (N := 2) rfl ?_); refine box_event ?hg (N := 2) ?hd (cs := #[.slice A0_0 l0_0.length c0_0, .bool a0_1, .int .i64 a0_2, .string a0_3]) (t := 32) ?hr ?_; (case hd => rfl); (case hg => rfl); (case hr => first | (go_simp; done) | (go_simp; rfl)); intro gb440 hg w6 hbox hb; have n0_ := Aside0.mk (below_step (by repeat (first | (with_reducible first | exact HB.out | apply below_alloc | apply pw_below_drewN | apply below_drew1) | exact HB.out)) hb); have n1_ := Aside0.mk (hbox); have n2_ := Aside0.mk ((by rw [hg]; exact (below_size (by repeat (first | (with_reducible first | exact HB.out | apply below_alloc | apply pw_below_drewN | apply below_drew1) | exact HB.out))) : w.heap.size ≤ gb440)); have n3_ := Aside0.mk ((by rw [hg]; exact (below_size (by repeat (first | (with_reducible first | exact HB.out | apply below_alloc | apply pw_below_drewN | apply below_drew1) | exact HB.out))) : w.heap.size ≤ gb440)); clear HB; have HB := n0_; have BK440 := n1_; have GW440 := n2_; have GE440 := n3_; clear n0_ n1_ n2_ n3_; clear hb hbox hg) | ((with_reducible refine gate_dst (N := 3) rfl ?_); refine box_event ?hg (N := 3) ?hd (cs := #[.slice A1_0 l1_0.length c1_0, .bool a1_1, .int .i64 a1_2, .string a1_3]) (t := 32) ?hr ?_; (case hd => rfl); (case hg => rfl); (case hr => first | (go_simp; done) | (go_simp; rfl)); intro gb441 hg w7 hbox hb; have n0_ := Aside0.mk (blk_below (g := gb440) (o := .cells #[.slice A0_0 l0_0.length c0_0, .bool a0_1, .int .i64 a0_2, .string a0_3] 32 (0, 0)) (by (with_reducible repeat (first | refine blk_drewN ?_ _ | refine blk_drew ?_ | refine blk_alloc ?_ _)); exact BK440.out) hb); have n1_ := Aside0.mk (below_step (by repeat (first | (with_reducible first | exact HB.out | apply below_alloc | apply pw_below_drewN | apply below_drew1 | refine below_set ?_ GE440.out) | exact HB.out)) hb); have n2_ := Aside0.mk (hbox); have n3_ := Aside0.mk ((by rw [hg]; exact (below_size (by repeat (first | (with_reducible first | exact HB.out | apply below_alloc | apply pw_below_drewN | apply below_drew1 | refine below_set ?_ GE440.out) | exact HB.out))) : w.heap.size ≤ gb441)); have n4_ := Aside0.mk ((by rw [hg]; exact (below_size (by repeat (first | (with_reducible first | exact HB.out | apply below_alloc | apply pw_below_drewN | apply below_drew1 | refine below_set ?_ GE440.out) | exact HB.out))) : w.heap.size ≤ gb441)); have n5_ := Aside0.mk ((by rw [hg]; exact Nat.ne_of_lt (blk_lt (g := gb440) (o := .cells #[.slice A0_0 l0_0.length c0_0, .bool a0_1, .int .i64 a0_2, .string a0_3] 32 (0, 0)) (by (with_reducible repeat (first | refine blk_drewN ?_ _ | refine blk_drew ?_ | refine blk_alloc ?_ _)); exact BK440.out)) : gb440 ≠ gb441)); have n6_ := Aside0.mk ((by rw [hg]; exact Nat.ne_of_gt (blk_lt (g := gb440) (o := .cells #[.slice A0_0 l0_0.length c0_0, .bool a0_1, .int .i64 a0_2, .string a0_3] 32 (0, 0)) (by (with_reducible repeat (first | refine blk_drewN ?_ _ | refine blk_drew ?_ | refine blk_alloc ?_ _)); exact BK440.out)) : gb441 ≠ gb440)); clear BK440; clear HB; have BK440 := n0_; have HB := n1_; have BK441 := n2_; have GW441 := n3_; have GE441 := n4_; have NB440_441 := n5_; have NB441_440 := n6_; clear n0_ n1_ n2_ n3_ n4_ n5_ n6_; clear hb hbox hg) | ((with_reducible refine gate_callee (f := 15) rfl ?_); refine goesL_ (some 12) rfl rfl Tryd.func15 (by kernel_rfl) rfl #[] rfl (by (try simp only [List.map_toArray, List.map_cons, List.map_nil]); first | done | rfl | (simp only [List.length_drop, List.length_take]; rfl)) ?_; (with_reducible refine (keystonelaw2_known.calls k  true _ A3.out).mono ?_); rintro e w8 ⟨rfl, hb⟩; refine ⟨_, rfl, ?_⟩; have n0_ := Aside0.mk (blk_below (g := gb440) (o := .cells #[.slice A0_0 l0_0.length c0_0, .bool a0_1, .int .i64 a0_2, .string a0_3] 32 (0, 0)) (by (with_reducible repeat (first | refine blk_drewN ?_ _ | refine blk_drew ?_ | refine blk_alloc ?_ _)); exact BK440.out) hb); have n1_ := Aside0.mk (blk_below (g := gb441) (o := .cells #[.slice A1_0 l1_0.length c1_0, .bool a1_1, .int .i64 a1_2, .string a1_3] 32 (0, 0)) (by (with_reducible repeat (first | refine blk_drewN ?_ _ | refine blk_drew ?_ | refine blk_alloc ?_ _)); exact BK441.out) hb); have n2_ := Aside0.mk (below_step (by repeat (first | (with_reducible first | exact HB.out | apply below_alloc | apply pw_below_drewN | apply below_drew1 | refine below_set ?_ GE440.out | refine below_set ?_ GE441.out) | exact HB.out)) hb); clear BK440; clear BK441; clear HB; have BK440 := n0_; have BK441 := n1_; have HB := n2_; clear n0_ n1_ n2_; (try clear hb); (try clear hb2); (try clear hk); (try clear hi)))
    (try simp only [Act.put, List.setIfInBounds_toArray, List.set_cons_zero, List.set_cons_succ])
    go_cut [21] (fun v21 wc => ∃ (kq : Nat) (x21_4 : Bool), v21 = .bool x21_4 ∧ Aside0 (keystonelaw2_DescSame.j0 kq x21_4 l0_0 a0_1 a0_2 a0_3 l1_0 a1_1 a1_2 a1_3 = some r) ∧ Aside0 (kq ≤ k) ∧ Aside0 (wc.heap[gb440]? = some (.cells #[(.slice A0_0 l0_0.length c0_0), .bool a0_1, .int .i64 a0_2, .string a0_3] 32 (0, 0))) ∧ Aside0 (wc.heap[gb441]? = some (.cells #[(.slice A1_0 l1_0.length c1_0), .bool a1_1, .int .i64 a1_2, .string a1_3] 32 (0, 0))) ∧ Aside0 (Below w.heap.size w wc))
    case first =>
      have H := HC5.out
      clear HC5
      replace H := Option.bind_eq_some_iff.mp H
      obtain ⟨t443, A90, H⟩ := H
      replace H : (if t443 = true then ((keystonelaw2_few.f l1_0 a1_1 a1_2 a1_3).bind fun t444 => (keystonelaw2_DescSame.j0 k (!t444) l0_0 a0_1 a0_2 a0_3 l1_0 a1_1 a1_2 a1_3)) else (keystonelaw2_DescSame.j0 k true l0_0 a0_1 a0_2 a0_3 l1_0 a1_1 a1_2 a1_3)) = some r := H
      have A9 := Aside0.mk A90
      clear A90
      by_cases c10 : t443 = true
      · subst c10
        have H1 : ((keystonelaw2_few.f l1_0 a1_1 a1_2 a1_3).bind fun t444 => (keystonelaw2_DescSame.j0 k (!t444) l0_0 a0_1 a0_2 a0_3 l1_0 a1_1 a1_2 a1_3)) = some r := by rw [if_pos rfl] at H; exact H
        clear H
        have H := H1
        clear H1
        replace H := Option.bind_eq_some_iff.mp H
        obtain ⟨t444, A110, H⟩ := H
        replace H : (keystonelaw2_DescSame.j0 k (!t444) l0_0 a0_1 a0_2 a0_3 l1_0 a1_1 a1_2 a1_3) = some r := H
        have A11 := Aside0.mk A110
        clear A110
        have H' := Aside0.mk H
        clear H
        have hnb12 := NB440_441.out
        have hnc12 := NB441_440.out
        have hcz13_0 : w8.cell? ⟨gb440, 0, none⟩ = some (.slice A0_0 l0_0.length c0_0) := (blk_cell BK440.out 0).trans rfl
        have hcz13_1 : w8.cell? ⟨gb440, 1, none⟩ = some (.bool a0_1) := (blk_cell BK440.out 1).trans rfl
        have hcz13_2 : w8.cell? ⟨gb440, 2, none⟩ = some (.int .i64 a0_2) := (blk_cell BK440.out 2).trans rfl
        have hcz13_3 : w8.cell? ⟨gb440, 3, none⟩ = some (.string a0_3) := (blk_cell BK440.out 3).trans rfl
        have hfz13_0 := blk_frozen BK440.out 0
        have hfz13_1 := blk_frozen BK440.out 1
        have hfz13_2 := blk_frozen BK440.out 2
        have hfz13_3 := blk_frozen BK440.out 3
        go_wp2_with (first | ((with_reducible refine gate_callee (f := 34) rfl ?_); refine goesL_ (some 15) rfl rfl Tryd.func34 (by kernel_rfl) rfl #[.agg #[.slice A0_0 l0_0.length c0_0, .bool a0_1, .int .i64 a0_2, .string a0_3]] rfl (by (try simp only [List.map_toArray, List.map_cons, List.map_nil]); first | done | rfl | (simp only [List.length_drop, List.length_take]; rfl)) ?_; (with_reducible refine (keystonelaw2_few.calls _ _ l0_0 a0_1 a0_2 a0_3 true _ ?side1 ?side2 A9.out).mono ?_); (case side1 => repeat (first | exact (Kd.C_below HR0_0.out HB.out) | (with_reducible refine Kd.C_alloc ?_ _) | (with_reducible refine Kd.C_drewN ?_ _) | (with_reducible refine Kd.C_drew ?_))); (case side2 => exact HC0_0.out); rintro e w14 ⟨rfl, hb⟩; refine ⟨_, rfl, ?_⟩; have n0_ := Aside0.mk (blk_below (g := gb440) (o := .cells #[.slice A0_0 l0_0.length c0_0, .bool a0_1, .int .i64 a0_2, .string a0_3] 32 (0, 0)) (by (with_reducible repeat (first | refine blk_drewN ?_ _ | refine blk_drew ?_ | refine blk_alloc ?_ _)); exact BK440.out) hb); have n1_ := Aside0.mk (blk_below (g := gb441) (o := .cells #[.slice A1_0 l1_0.length c1_0, .bool a1_1, .int .i64 a1_2, .string a1_3] 32 (0, 0)) (by (with_reducible repeat (first | refine blk_drewN ?_ _ | refine blk_drew ?_ | refine blk_alloc ?_ _)); exact BK441.out) hb); have n2_ := Aside0.mk (below_step (by repeat (first | (with_reducible first | exact HB.out | apply below_alloc | apply pw_below_drewN | apply below_drew1 | refine below_set ?_ GE440.out | refine below_set ?_ GE441.out) | exact HB.out)) hb); clear BK440; clear BK441; clear HB; have BK440 := n0_; have BK441 := n1_; have HB := n2_; clear n0_ n1_ n2_; (try clear hb); (try clear hb2); (try clear hk); (try clear hi); have hcz15_0 : w14.cell? ⟨gb441, 0, none⟩ = some (.slice A1_0 l1_0.length c1_0) := (blk_cell BK441.out 0).trans rfl; have hcz15_1 : w14.cell? ⟨gb441, 1, none⟩ = some (.bool a1_1) := (blk_cell BK441.out 1).trans rfl; have hcz15_2 : w14.cell? ⟨gb441, 2, none⟩ = some (.int .i64 a1_2) := (blk_cell BK441.out 2).trans rfl; have hcz15_3 : w14.cell? ⟨gb441, 3, none⟩ = some (.string a1_3) := (blk_cell BK441.out 3).trans rfl; have hfz15_0 := blk_frozen BK441.out 0; have hfz15_1 := blk_frozen BK441.out 1; have hfz15_2 := blk_frozen BK441.out 2; have hfz15_3 := blk_frozen BK441.out 3) | (go_at_call 34; (with_reducible refine (keystonelaw2_few.calls _ _ l1_0 a1_1 a1_2 a1_3 t444 _ ?side1 ?side2 A11.out).mono ?_); (case side1 => repeat (first | exact (Kd.C_below HR1_0.out HB.out) | (with_reducible refine Kd.C_alloc ?_ _) | (with_reducible refine Kd.C_drewN ?_ _) | (with_reducible refine Kd.C_drew ?_))); (case side2 => exact HC1_0.out); rintro e w16 ⟨rfl, hb⟩; have n0_ := Aside0.mk (blk_below (g := gb440) (o := .cells #[.slice A0_0 l0_0.length c0_0, .bool a0_1, .int .i64 a0_2, .string a0_3] 32 (0, 0)) (by (with_reducible repeat (first | refine blk_drewN ?_ _ | refine blk_drew ?_ | refine blk_alloc ?_ _)); exact BK440.out) hb); have n1_ := Aside0.mk (blk_below (g := gb441) (o := .cells #[.slice A1_0 l1_0.length c1_0, .bool a1_1, .int .i64 a1_2, .string a1_3] 32 (0, 0)) (by (with_reducible repeat (first | refine blk_drewN ?_ _ | refine blk_drew ?_ | refine blk_alloc ?_ _)); exact BK441.out) hb); have n2_ := Aside0.mk (below_step (by repeat (first | (with_reducible first | exact HB.out | apply below_alloc | apply pw_below_drewN | apply below_drew1 | refine below_set ?_ GE440.out | refine below_set ?_ GE441.out) | exact HB.out)) hb); clear BK440; clear BK441; clear HB; have BK440 := n0_; have BK441 := n1_; have HB := n2_; clear n0_ n1_ n2_; (try clear hb); (try clear hb2); (try clear hk); (try clear hi)))
        go_meet
        case rel => exact ⟨_, (!t444), (by first | rfl | (simp; done) | (simp [*]; done) | (simp [wrap64]; done)), H', ⟨by first | omega | exact Nat.le_refl _⟩, ⟨by (with_reducible repeat (first | refine blk_drewN ?_ _ | refine blk_drew ?_ | refine blk_alloc ?_ _)); exact BK440.out⟩, ⟨by (with_reducible repeat (first | refine blk_drewN ?_ _ | refine blk_drew ?_ | refine blk_alloc ?_ _)); exact BK441.out⟩, ⟨by repeat (first | (with_reducible first | exact HB.out | apply below_alloc | apply pw_below_drewN | apply below_drew1 | refine below_set ?_ GE440.out | refine below_set ?_ GE441.out) | exact HB.out)⟩⟩
      · replace c10 := Bool.eq_false_iff.mpr c10
        subst c10
        have H1 : (keystonelaw2_DescSame.j0 k true l0_0 a0_1 a0_2 a0_3 l1_0 a1_1 a1_2 a1_3) = some r := by rw [if_neg (show ¬ (false = true) by decide)] at H; exact H
        clear H
        have H := H1
        clear H1
        have H' := Aside0.mk H
        clear H
        have hnb17 := NB440_441.out
        have hnc17 := NB441_440.out
        have hcz18_0 : w8.cell? ⟨gb440, 0, none⟩ = some (.slice A0_0 l0_0.length c0_0) := (blk_cell BK440.out 0).trans rfl
        have hcz18_1 : w8.cell? ⟨gb440, 1, none⟩ = some (.bool a0_1) := (blk_cell BK440.out 1).trans rfl
        have hcz18_2 : w8.cell? ⟨gb440, 2, none⟩ = some (.int .i64 a0_2) := (blk_cell BK440.out 2).trans rfl
        have hcz18_3 : w8.cell? ⟨gb440, 3, none⟩ = some (.string a0_3) := (blk_cell BK440.out 3).trans rfl
        have hfz18_0 := blk_frozen BK440.out 0
        have hfz18_1 := blk_frozen BK440.out 1
        have hfz18_2 := blk_frozen BK440.out 2
        have hfz18_3 := blk_frozen BK440.out 3
        go_wp2_with (first | ((with_reducible refine gate_callee (f := 34) rfl ?_); refine goesL_ (some 15) rfl rfl Tryd.func34 (by kernel_rfl) rfl #[.agg #[.slice A0_0 l0_0.length c0_0, .bool a0_1, .int .i64 a0_2, .string a0_3]] rfl (by (try simp only [List.map_toArray, List.map_cons, List.map_nil]); first | done | rfl | (simp only [List.length_drop, List.length_take]; rfl)) ?_; (with_reducible refine (keystonelaw2_few.calls _ _ l0_0 a0_1 a0_2 a0_3 false _ ?side1 ?side2 A9.out).mono ?_); (case side1 => repeat (first | exact (Kd.C_below HR0_0.out HB.out) | (with_reducible refine Kd.C_alloc ?_ _) | (with_reducible refine Kd.C_drewN ?_ _) | (with_reducible refine Kd.C_drew ?_))); (case side2 => exact HC0_0.out); rintro e w19 ⟨rfl, hb⟩; refine ⟨_, rfl, ?_⟩; have n0_ := Aside0.mk (blk_below (g := gb440) (o := .cells #[.slice A0_0 l0_0.length c0_0, .bool a0_1, .int .i64 a0_2, .string a0_3] 32 (0, 0)) (by (with_reducible repeat (first | refine blk_drewN ?_ _ | refine blk_drew ?_ | refine blk_alloc ?_ _)); exact BK440.out) hb); have n1_ := Aside0.mk (blk_below (g := gb441) (o := .cells #[.slice A1_0 l1_0.length c1_0, .bool a1_1, .int .i64 a1_2, .string a1_3] 32 (0, 0)) (by (with_reducible repeat (first | refine blk_drewN ?_ _ | refine blk_drew ?_ | refine blk_alloc ?_ _)); exact BK441.out) hb); have n2_ := Aside0.mk (below_step (by repeat (first | (with_reducible first | exact HB.out | apply below_alloc | apply pw_below_drewN | apply below_drew1 | refine below_set ?_ GE440.out | refine below_set ?_ GE441.out) | exact HB.out)) hb); clear BK440; clear BK441; clear HB; have BK440 := n0_; have BK441 := n1_; have HB := n2_; clear n0_ n1_ n2_; (try clear hb); (try clear hb2); (try clear hk); (try clear hi)))
        go_meet
        case rel => exact ⟨_, (true), (by first | rfl | (simp; done) | (simp [*]; done) | (simp [wrap64]; done)), H', ⟨by first | omega | exact Nat.le_refl _⟩, ⟨by (with_reducible repeat (first | refine blk_drewN ?_ _ | refine blk_drew ?_ | refine blk_alloc ?_ _)); exact BK440.out⟩, ⟨by (with_reducible repeat (first | refine blk_drewN ?_ _ | refine blk_drew ?_ | refine blk_alloc ?_ _)); exact BK441.out⟩, ⟨by repeat (first | (with_reducible first | exact HB.out | apply below_alloc | apply pw_below_drewN | apply below_drew1 | refine below_set ?_ GE440.out | refine below_set ?_ GE441.out) | exact HB.out)⟩⟩
    case rest =>
      clear HC5
      try clear c1
      try clear p2
      try clear c3
      try clear c4
      try clear c10
      try clear c12
      try clear c13
      try clear c15
      try clear c17
      try clear hcz13_0
      try clear hcz13_1
      try clear hcz13_2
      try clear hcz13_3
      try clear hcz15_0
      try clear hcz15_1
      try clear hcz15_2
      try clear hcz15_3
      try clear hcz18_0
      try clear hcz18_1
      try clear hcz18_2
      try clear hcz18_3
      try clear hfz13_0
      try clear hfz13_1
      try clear hfz13_2
      try clear hfz13_3
      try clear hfz15_0
      try clear hfz15_1
      try clear hfz15_2
      try clear hfz15_3
      try clear hfz18_0
      try clear hfz18_1
      try clear hfz18_2
      try clear hfz18_3
      obtain ⟨kq, x21_4, rfl, HA, HJ4, BK440, BK441, HB⟩ := hcut
      cases kq with
      | zero => exact absurd HA.out (by simp [keystonelaw2_DescSame.j0])
      | succ kj4 =>
        have H := HA.out
        clear HA
        simp only [keystonelaw2_DescSame.j0] at H
        by_cases c20 : x21_4 = true
        · subst c20
          have H1 : (some true) = some r := by rw [if_pos rfl] at H; exact H
          clear H
          have H := H1
          clear H1
          obtain rfl := Option.some.inj H
          go_wp2
          go_ret
          exact ⟨by first | rfl | (simp [errW_none, errW_some] <;> rfl) | (simp [*, errW_none, errW_some] <;> rfl), by repeat (first | (with_reducible first | exact HB.out | apply below_alloc | apply pw_below_drewN | apply below_drew1 | refine below_set ?_ GE440.out | refine below_set ?_ GE441.out) | exact HB.out)⟩
        · replace c20 := Bool.eq_false_iff.mpr c20
          subst c20
          have H1 : ((desc_SigText.f kj4 l0_0 a0_1 a0_2 a0_3).bind fun bt445 => ((desc_SigText.f kj4 l1_0 a1_1 a1_2 a1_3).bind fun bt447 => ((desc_Same.f kj4 l0_0 a0_1 a0_2 a0_3 l0_0 a0_1 a0_2 a0_3).bind fun t449 => (if t449 = true then ((desc_Same.f kj4 l0_0 a0_1 a0_2 a0_3 l1_0 a1_1 a1_2 a1_3).bind fun t450 => ((desc_Same.f kj4 l1_0 a1_1 a1_2 a1_3 l0_0 a0_1 a0_2 a0_3).bind fun t451 => (keystonelaw2_DescSame.j1 kj4 bt445.1 bt445.2 bt447.1 bt447.2 (t450 != t451) l0_0 a0_1 a0_2 a0_3 l1_0 a1_1 a1_2 a1_3))) else (keystonelaw2_DescSame.j1 kj4 bt445.1 bt445.2 bt447.1 bt447.2 true l0_0 a0_1 a0_2 a0_3 l1_0 a1_1 a1_2 a1_3))))) = some r := by rw [if_neg (show ¬ (false = true) by decide)] at H; exact H
          clear H
          have H := H1
          clear H1
          replace H := Option.bind_eq_some_iff.mp H
          obtain ⟨⟨t445, t446⟩, A210, H⟩ := H
          replace H : ((desc_SigText.f kj4 l1_0 a1_1 a1_2 a1_3).bind fun bt447 => ((desc_Same.f kj4 l0_0 a0_1 a0_2 a0_3 l0_0 a0_1 a0_2 a0_3).bind fun t449 => (if t449 = true then ((desc_Same.f kj4 l0_0 a0_1 a0_2 a0_3 l1_0 a1_1 a1_2 a1_3).bind fun t450 => ((desc_Same.f kj4 l1_0 a1_1 a1_2 a1_3 l0_0 a0_1 a0_2 a0_3).bind fun t451 => (keystonelaw2_DescSame.j1 kj4 t445 t446 bt447.1 bt447.2 (t450 != t451) l0_0 a0_1 a0_2 a0_3 l1_0 a1_1 a1_2 a1_3))) else (keystonelaw2_DescSame.j1 kj4 t445 t446 bt447.1 bt447.2 true l0_0 a0_1 a0_2 a0_3 l1_0 a1_1 a1_2 a1_3)))) = some r := H
          have A21 := Aside0.mk A210
          clear A210
          replace H := Option.bind_eq_some_iff.mp H
          obtain ⟨⟨t447, t448⟩, A220, H⟩ := H
          replace H : ((desc_Same.f kj4 l0_0 a0_1 a0_2 a0_3 l0_0 a0_1 a0_2 a0_3).bind fun t449 => (if t449 = true then ((desc_Same.f kj4 l0_0 a0_1 a0_2 a0_3 l1_0 a1_1 a1_2 a1_3).bind fun t450 => ((desc_Same.f kj4 l1_0 a1_1 a1_2 a1_3 l0_0 a0_1 a0_2 a0_3).bind fun t451 => (keystonelaw2_DescSame.j1 kj4 t445 t446 t447 t448 (t450 != t451) l0_0 a0_1 a0_2 a0_3 l1_0 a1_1 a1_2 a1_3))) else (keystonelaw2_DescSame.j1 kj4 t445 t446 t447 t448 true l0_0 a0_1 a0_2 a0_3 l1_0 a1_1 a1_2 a1_3))) = some r := H
          have A22 := Aside0.mk A220
          clear A220
          have HC23 := Aside0.mk H
          clear H
          have hnb24 := NB440_441.out
          have hnc24 := NB441_440.out
          have hcz25_0 : wc.cell? ⟨gb440, 0, none⟩ = some (.slice A0_0 l0_0.length c0_0) := (blk_cell BK440.out 0).trans rfl
          have hcz25_1 : wc.cell? ⟨gb440, 1, none⟩ = some (.bool a0_1) := (blk_cell BK440.out 1).trans rfl
          have hcz25_2 : wc.cell? ⟨gb440, 2, none⟩ = some (.int .i64 a0_2) := (blk_cell BK440.out 2).trans rfl
          have hcz25_3 : wc.cell? ⟨gb440, 3, none⟩ = some (.string a0_3) := (blk_cell BK440.out 3).trans rfl
          have hfz25_0 := blk_frozen BK440.out 0
          have hfz25_1 := blk_frozen BK440.out 1
          have hfz25_2 := blk_frozen BK440.out 2
          have hfz25_3 := blk_frozen BK440.out 3
          go_upto_region 7 with (first | ((with_reducible refine gate_callee (f := 35) rfl ?_); refine goesL_ (some 24) rfl rfl Tryd.func35 (by kernel_rfl) rfl #[.agg #[.slice A0_0 l0_0.length c0_0, .bool a0_1, .int .i64 a0_2, .string a0_3]] rfl (by (try simp only [List.map_toArray, List.map_cons, List.map_nil]); first | done | rfl | (simp only [List.length_drop, List.length_take]; rfl)) ?_; (with_reducible refine (desc_SigText.calls kj4 _ _ l0_0 a0_1 a0_2 a0_3 t445 t446 _ ?side1 ?side2 A21.out).mono ?_); (case side1 => repeat (first | exact (Kd.C_below HR0_0.out HB.out) | (with_reducible refine Kd.C_alloc ?_ _) | (with_reducible refine Kd.C_drewN ?_ _) | (with_reducible refine Kd.C_drew ?_))); (case side2 => exact HC0_0.out); rintro e w26 ⟨rfl, hb⟩; refine ⟨_, rfl, ?_⟩; have n0_ := Aside0.mk (blk_below (g := gb440) (o := .cells #[.slice A0_0 l0_0.length c0_0, .bool a0_1, .int .i64 a0_2, .string a0_3] 32 (0, 0)) (by (with_reducible repeat (first | refine blk_drewN ?_ _ | refine blk_drew ?_ | refine blk_alloc ?_ _)); exact BK440.out) hb); have n1_ := Aside0.mk (blk_below (g := gb441) (o := .cells #[.slice A1_0 l1_0.length c1_0, .bool a1_1, .int .i64 a1_2, .string a1_3] 32 (0, 0)) (by (with_reducible repeat (first | refine blk_drewN ?_ _ | refine blk_drew ?_ | refine blk_alloc ?_ _)); exact BK441.out) hb); have n2_ := Aside0.mk (below_step (by repeat (first | (with_reducible first | exact HB.out | apply below_alloc | apply pw_below_drewN | apply below_drew1 | refine below_set ?_ GE440.out | refine below_set ?_ GE441.out) | exact HB.out)) hb); clear BK440; clear BK441; clear HB; have BK440 := n0_; have BK441 := n1_; have HB := n2_; clear n0_ n1_ n2_; (try clear hb); (try clear hb2); (try clear hk); (try clear hi); have hcz27_0 : w26.cell? ⟨gb441, 0, none⟩ = some (.slice A1_0 l1_0.length c1_0) := (blk_cell BK441.out 0).trans rfl; have hcz27_1 : w26.cell? ⟨gb441, 1, none⟩ = some (.bool a1_1) := (blk_cell BK441.out 1).trans rfl; have hcz27_2 : w26.cell? ⟨gb441, 2, none⟩ = some (.int .i64 a1_2) := (blk_cell BK441.out 2).trans rfl; have hcz27_3 : w26.cell? ⟨gb441, 3, none⟩ = some (.string a1_3) := (blk_cell BK441.out 3).trans rfl; have hfz27_0 := blk_frozen BK441.out 0; have hfz27_1 := blk_frozen BK441.out 1; have hfz27_2 := blk_frozen BK441.out 2; have hfz27_3 := blk_frozen BK441.out 3) | ((with_reducible refine gate_callee (f := 35) rfl ?_); refine goesL_ (some 29) rfl rfl Tryd.func35 (by kernel_rfl) rfl #[.agg #[.slice A1_0 l1_0.length c1_0, .bool a1_1, .int .i64 a1_2, .string a1_3]] rfl (by (try simp only [List.map_toArray, List.map_cons, List.map_nil]); first | done | rfl | (simp only [List.length_drop, List.length_take]; rfl)) ?_; (with_reducible refine (desc_SigText.calls kj4 _ _ l1_0 a1_1 a1_2 a1_3 t447 t448 _ ?side1 ?side2 A22.out).mono ?_); (case side1 => repeat (first | exact (Kd.C_below HR1_0.out HB.out) | (with_reducible refine Kd.C_alloc ?_ _) | (with_reducible refine Kd.C_drewN ?_ _) | (with_reducible refine Kd.C_drew ?_))); (case side2 => exact HC1_0.out); rintro e w28 ⟨rfl, hb⟩; refine ⟨_, rfl, ?_⟩; have n0_ := Aside0.mk (blk_below (g := gb440) (o := .cells #[.slice A0_0 l0_0.length c0_0, .bool a0_1, .int .i64 a0_2, .string a0_3] 32 (0, 0)) (by (with_reducible repeat (first | refine blk_drewN ?_ _ | refine blk_drew ?_ | refine blk_alloc ?_ _)); exact BK440.out) hb); have n1_ := Aside0.mk (blk_below (g := gb441) (o := .cells #[.slice A1_0 l1_0.length c1_0, .bool a1_1, .int .i64 a1_2, .string a1_3] 32 (0, 0)) (by (with_reducible repeat (first | refine blk_drewN ?_ _ | refine blk_drew ?_ | refine blk_alloc ?_ _)); exact BK441.out) hb); have n2_ := Aside0.mk (below_step (by repeat (first | (with_reducible first | exact HB.out | apply below_alloc | apply pw_below_drewN | apply below_drew1 | refine below_set ?_ GE440.out | refine below_set ?_ GE441.out) | exact HB.out)) hb); clear BK440; clear BK441; clear HB; have BK440 := n0_; have BK441 := n1_; have HB := n2_; clear n0_ n1_ n2_; (try clear hb); (try clear hb2); (try clear hk); (try clear hi)))
          (try simp only [Act.put, List.setIfInBounds_toArray, List.set_cons_zero, List.set_cons_succ])
          go_cut [44] (fun v44 wc => ∃ (kq : Nat) (x44_22 : Bool), v44 = .bool x44_22 ∧ Aside0 (keystonelaw2_DescSame.j1 kq t445 t446 t447 t448 x44_22 l0_0 a0_1 a0_2 a0_3 l1_0 a1_1 a1_2 a1_3 = some r) ∧ Aside0 (kq ≤ kj4) ∧ Aside0 (wc.heap[gb440]? = some (.cells #[(.slice A0_0 l0_0.length c0_0), .bool a0_1, .int .i64 a0_2, .string a0_3] 32 (0, 0))) ∧ Aside0 (wc.heap[gb441]? = some (.cells #[(.slice A1_0 l1_0.length c1_0), .bool a1_1, .int .i64 a1_2, .string a1_3] 32 (0, 0))) ∧ Aside0 (Below w.heap.size w wc))
          case first =>
            have H := HC23.out
            clear HC23
            replace H := Option.bind_eq_some_iff.mp H
            obtain ⟨t449, A290, H⟩ := H
            replace H : (if t449 = true then ((desc_Same.f kj4 l0_0 a0_1 a0_2 a0_3 l1_0 a1_1 a1_2 a1_3).bind fun t450 => ((desc_Same.f kj4 l1_0 a1_1 a1_2 a1_3 l0_0 a0_1 a0_2 a0_3).bind fun t451 => (keystonelaw2_DescSame.j1 kj4 t445 t446 t447 t448 (t450 != t451) l0_0 a0_1 a0_2 a0_3 l1_0 a1_1 a1_2 a1_3))) else (keystonelaw2_DescSame.j1 kj4 t445 t446 t447 t448 true l0_0 a0_1 a0_2 a0_3 l1_0 a1_1 a1_2 a1_3)) = some r := H
            have A29 := Aside0.mk A290
            clear A290
            by_cases c30 : t449 = true
            · subst c30
              have H1 : ((desc_Same.f kj4 l0_0 a0_1 a0_2 a0_3 l1_0 a1_1 a1_2 a1_3).bind fun t450 => ((desc_Same.f kj4 l1_0 a1_1 a1_2 a1_3 l0_0 a0_1 a0_2 a0_3).bind fun t451 => (keystonelaw2_DescSame.j1 kj4 t445 t446 t447 t448 (t450 != t451) l0_0 a0_1 a0_2 a0_3 l1_0 a1_1 a1_2 a1_3))) = some r := by rw [if_pos rfl] at H; exact H
              clear H
              have H := H1
              clear H1
              replace H := Option.bind_eq_some_iff.mp H
              obtain ⟨t450, A310, H⟩ := H
              replace H : ((desc_Same.f kj4 l1_0 a1_1 a1_2 a1_3 l0_0 a0_1 a0_2 a0_3).bind fun t451 => (keystonelaw2_DescSame.j1 kj4 t445 t446 t447 t448 (t450 != t451) l0_0 a0_1 a0_2 a0_3 l1_0 a1_1 a1_2 a1_3)) = some r := H
              have A31 := Aside0.mk A310
              clear A310
              replace H := Option.bind_eq_some_iff.mp H
              obtain ⟨t451, A320, H⟩ := H
              replace H : (keystonelaw2_DescSame.j1 kj4 t445 t446 t447 t448 (t450 != t451) l0_0 a0_1 a0_2 a0_3 l1_0 a1_1 a1_2 a1_3) = some r := H
              have A32 := Aside0.mk A320
              clear A320
              have H' := Aside0.mk H
              clear H
              try go_wp2
              have n0_ := Aside0.mk (blk_drew BK440.out)
              have n1_ := Aside0.mk (blk_drew BK441.out)
              have n2_ := Aside0.mk (below_drew1 HB.out)
              clear BK440
              clear BK441
              clear HB
              have BK440 := n0_
              have BK441 := n1_
              have HB := n2_
              clear n0_ n1_ n2_
              refine start_ (n := 13) (S := fun w' => w'.cell? ⟨gb440, 0, none⟩ = some (.slice A0_0 l0_0.length c0_0) ∧ w'.cell? ⟨gb440, 1, none⟩ = some (.bool a0_1) ∧ w'.cell? ⟨gb440, 2, none⟩ = some (.int .i64 a0_2) ∧ w'.cell? ⟨gb440, 3, none⟩ = some (.string a0_3) ∧ w'.cell? ⟨gb441, 0, none⟩ = some (.slice A1_0 l1_0.length c1_0) ∧ w'.cell? ⟨gb441, 1, none⟩ = some (.bool a1_1) ∧ w'.cell? ⟨gb441, 2, none⟩ = some (.int .i64 a1_2) ∧ w'.cell? ⟨gb441, 3, none⟩ = some (.string a1_3)) (ds := []) #[false, false, false, false, false, false, false, false, false, false, false, false, false] (by kernel_rfl) rfl rfl ⟨(blk_cell BK440.out 0).trans rfl, (blk_cell BK440.out 1).trans rfl, (blk_cell BK440.out 2).trans rfl, (blk_cell BK440.out 3).trans rfl, (blk_cell BK441.out 0).trans rfl, (blk_cell BK441.out 1).trans rfl, (blk_cell BK441.out 2).trans rfl, (blk_cell BK441.out 3).trans rfl⟩ (fun hHeld => ?_); refine with_tabW keystonelaw2_DescSame.tab7 keystonelaw2_DescSame.bits7 (fun HT_ HW_ => ?_)
              generalize w28.drew = w33 at BK440 BK441 HB hHeld ⊢
              refine take_ (i := 0) (N := some 32) (v := ?_) (a' := ?_) #[true, false, false, false, false, false, false, false, false, false, false, false, false] rfl rfl (take_ofW HT_.out HW_.out (by kernel_rfl)) (fun _ _ _ h => h) (Or.inl ⟨by rfl, ?_⟩) hHeld ?_ ?_
              rotate_left
              · rintro w' ⟨s0, s1, s2, s3, s4, s5, s6, s7⟩
                go_simp
                with_reducible rfl
              rotate_left
              · simp only [Act.put, List.setIfInBounds_toArray, List.set_cons_zero, List.set_cons_succ, i64_w, i32_w]
                rfl
              refine take_ (i := 1) (N := some 33) (v := ?_) (a' := ?_) #[true, true, false, false, false, false, false, false, false, false, false, false, false] rfl rfl (take_ofW HT_.out HW_.out (by kernel_rfl)) (fun _ _ _ h => h) (Or.inl ⟨by rfl, ?_⟩) hHeld ?_ ?_
              rotate_left
              · rintro w' ⟨s0, s1, s2, s3, s4, s5, s6, s7⟩
                go_simp
                with_reducible rfl
              rotate_left
              · simp only [Act.put, List.setIfInBounds_toArray, List.set_cons_zero, List.set_cons_succ, i64_w, i32_w]
                rfl
              refine one_ (i := 2) (N := some 34) #[true, true, true, false, false, false, false, false, false, false, false, false, false] rfl rfl (one_of HT_.out (by kernel_rfl)) (by decide) (fun K hK => ?_)
              refine goes_ Tryd.func41 (by kernel_rfl) rfl #[.agg #[.slice A0_0 l0_0.length c0_0, .bool a0_1, .int .i64 a0_2, .string a0_3], .agg #[.slice A0_0 l0_0.length c0_0, .bool a0_1, .int .i64 a0_2, .string a0_3]] (by rfl) rfl rfl (by (try simp only [List.map_toArray, List.map_cons, List.map_nil]); first | done | rfl | (simp only [List.length_drop, List.length_take]; rfl)) ?_
              with_reducible refine (desc_Same.calls kj4 _ _ l0_0 a0_1 a0_2 a0_3 _ _ l0_0 a0_1 a0_2 a0_3 true _ ?side1 ?side2 ?side3 ?side4 A29.out).mono ?_
              (case side1 => repeat (first | exact (Kd.C_below HR0_0.out HB.out) | (with_reducible refine Kd.C_alloc ?_ _) | (with_reducible refine Kd.C_drewN ?_ _) | (with_reducible refine Kd.C_drew ?_)))
              (case side2 => exact HC0_0.out)
              (case side3 => repeat (first | exact (Kd.C_below HR0_0.out HB.out) | (with_reducible refine Kd.C_alloc ?_ _) | (with_reducible refine Kd.C_drewN ?_ _) | (with_reducible refine Kd.C_drew ?_)))
              (case side4 => exact HC0_0.out)
              rintro e w34 ⟨rfl, hb⟩
              refine ⟨_, rfl, ?_⟩
              have n0_ := Aside0.mk (blk_below (g := gb440) (o := .cells #[.slice A0_0 l0_0.length c0_0, .bool a0_1, .int .i64 a0_2, .string a0_3] 32 (0, 0)) (by (with_reducible repeat (first | refine blk_drewN ?_ _ | refine blk_drew ?_ | refine blk_alloc ?_ _)); exact BK440.out) hb)
              have n1_ := Aside0.mk (blk_below (g := gb441) (o := .cells #[.slice A1_0 l1_0.length c1_0, .bool a1_1, .int .i64 a1_2, .string a1_3] 32 (0, 0)) (by (with_reducible repeat (first | refine blk_drewN ?_ _ | refine blk_drew ?_ | refine blk_alloc ?_ _)); exact BK441.out) hb)
              have n2_ := Aside0.mk (below_step (by repeat (first | (with_reducible first | exact HB.out | apply below_alloc | apply pw_below_drewN | apply below_drew1 | refine below_set ?_ GE440.out | refine below_set ?_ GE441.out) | exact HB.out)) hb)
              clear BK440
              clear BK441
              clear HB
              have BK440 := n0_
              have BK441 := n1_
              have HB := n2_
              clear n0_ n1_ n2_
              (try clear hb)
              (try clear hb2)
              (try clear hk)
              (try clear hi)
              refine hK.out _ _ ⟨(blk_cell BK440.out 0).trans rfl, (blk_cell BK440.out 1).trans rfl, (blk_cell BK440.out 2).trans rfl, (blk_cell BK440.out 3).trans rfl, (blk_cell BK441.out 0).trans rfl, (blk_cell BK441.out 1).trans rfl, (blk_cell BK441.out 2).trans rfl, (blk_cell BK441.out 3).trans rfl⟩ (fun hHeld => ?_)
              clear hK K
              refine norm_ (a' := ?_) ?_ ?_
              rotate_left
              · show Act.put _ (some 34) _ = _
                simp only [Act.put, List.setIfInBounds_toArray, List.set_cons_zero, List.set_cons_succ, i64_w, i32_w]
                rfl
              refine pure_ (i := 3) (N := some 35) (v := ?_) (a' := ?_) #[true, true, true, true, false, false, false, false, false, false, false, false, false] rfl rfl (any_of HT_.out (by kernel_rfl)) (fun _ _ _ h => h) (Or.inl ⟨by rfl, ?_⟩) ?_ ?_
              rotate_left
              · intro w'
                go_simp
                with_reducible rfl
              rotate_left
              · simp only [Act.put, List.setIfInBounds_toArray, List.set_cons_zero, List.set_cons_succ, i64_w, i32_w]
                rfl
              refine pure_ (i := 4) (N := some 36) (v := ?_) (a' := ?_) #[true, true, true, true, true, false, false, false, false, false, false, false, false] rfl rfl (any_of HT_.out (by kernel_rfl)) (fun _ _ _ h => h) (Or.inl ⟨by rfl, ?_⟩) ?_ ?_
              rotate_left
              · intro w'
                go_simp
                with_reducible rfl
              rotate_left
              · simp only [Act.put, List.setIfInBounds_toArray, List.set_cons_zero, List.set_cons_succ, i64_w, i32_w]
                rfl
              refine take_ (i := 5) (N := some 37) (v := ?_) (a' := ?_) #[true, true, true, true, true, true, false, false, false, false, false, false, false] rfl rfl (take_ofW HT_.out HW_.out (by kernel_rfl)) (fun _ _ _ h => h) (Or.inl ⟨by rfl, ?_⟩) hHeld ?_ ?_
              rotate_left
              · rintro w' ⟨s0, s1, s2, s3, s4, s5, s6, s7⟩
                go_simp
                with_reducible rfl
              rotate_left
              · simp only [Act.put, List.setIfInBounds_toArray, List.set_cons_zero, List.set_cons_succ, i64_w, i32_w]
                rfl
              refine take_ (i := 6) (N := some 38) (v := ?_) (a' := ?_) #[true, true, true, true, true, true, true, false, false, false, false, false, false] rfl rfl (take_ofW HT_.out HW_.out (by kernel_rfl)) (fun _ _ _ h => h) (Or.inl ⟨by rfl, ?_⟩) hHeld ?_ ?_
              rotate_left
              · rintro w' ⟨s0, s1, s2, s3, s4, s5, s6, s7⟩
                go_simp
                with_reducible rfl
              rotate_left
              · simp only [Act.put, List.setIfInBounds_toArray, List.set_cons_zero, List.set_cons_succ, i64_w, i32_w]
                rfl
              refine take_ (i := 8) (N := some 40) (v := ?_) (a' := ?_) #[true, true, true, true, true, true, true, false, true, false, false, false, false] rfl rfl (take_ofW HT_.out HW_.out (by kernel_rfl)) (fun _ _ _ h => h) (Or.inl ⟨by rfl, ?_⟩) hHeld ?_ ?_
              rotate_left
              · rintro w' ⟨s0, s1, s2, s3, s4, s5, s6, s7⟩
                go_simp
                with_reducible rfl
              rotate_left
              · simp only [Act.put, List.setIfInBounds_toArray, List.set_cons_zero, List.set_cons_succ, i64_w, i32_w]
                rfl
              refine take_ (i := 9) (N := some 41) (v := ?_) (a' := ?_) #[true, true, true, true, true, true, true, false, true, true, false, false, false] rfl rfl (take_ofW HT_.out HW_.out (by kernel_rfl)) (fun _ _ _ h => h) (Or.inl ⟨by rfl, ?_⟩) hHeld ?_ ?_
              rotate_left
              · rintro w' ⟨s0, s1, s2, s3, s4, s5, s6, s7⟩
                go_simp
                with_reducible rfl
              rotate_left
              · simp only [Act.put, List.setIfInBounds_toArray, List.set_cons_zero, List.set_cons_succ, i64_w, i32_w]
                rfl
              refine one_ (i := 7) (N := some 39) #[true, true, true, true, true, true, true, true, true, true, false, false, false] rfl rfl (one_of HT_.out (by kernel_rfl)) (by decide) (fun K hK => ?_)
              refine goes_ Tryd.func41 (by kernel_rfl) rfl #[.agg #[.slice A0_0 l0_0.length c0_0, .bool a0_1, .int .i64 a0_2, .string a0_3], .agg #[.slice A1_0 l1_0.length c1_0, .bool a1_1, .int .i64 a1_2, .string a1_3]] (by rfl) rfl rfl (by (try simp only [List.map_toArray, List.map_cons, List.map_nil]); first | done | rfl | (simp only [List.length_drop, List.length_take]; rfl)) ?_
              with_reducible refine (desc_Same.calls kj4 _ _ l0_0 a0_1 a0_2 a0_3 _ _ l1_0 a1_1 a1_2 a1_3 t450 _ ?side1 ?side2 ?side3 ?side4 A31.out).mono ?_
              (case side1 => repeat (first | exact (Kd.C_below HR0_0.out HB.out) | (with_reducible refine Kd.C_alloc ?_ _) | (with_reducible refine Kd.C_drewN ?_ _) | (with_reducible refine Kd.C_drew ?_)))
              (case side2 => exact HC0_0.out)
              (case side3 => repeat (first | exact (Kd.C_below HR1_0.out HB.out) | (with_reducible refine Kd.C_alloc ?_ _) | (with_reducible refine Kd.C_drewN ?_ _) | (with_reducible refine Kd.C_drew ?_)))
              (case side4 => exact HC1_0.out)
              rintro e w35 ⟨rfl, hb⟩
              refine ⟨_, rfl, ?_⟩
              have n0_ := Aside0.mk (blk_below (g := gb440) (o := .cells #[.slice A0_0 l0_0.length c0_0, .bool a0_1, .int .i64 a0_2, .string a0_3] 32 (0, 0)) (by (with_reducible repeat (first | refine blk_drewN ?_ _ | refine blk_drew ?_ | refine blk_alloc ?_ _)); exact BK440.out) hb)
              have n1_ := Aside0.mk (blk_below (g := gb441) (o := .cells #[.slice A1_0 l1_0.length c1_0, .bool a1_1, .int .i64 a1_2, .string a1_3] 32 (0, 0)) (by (with_reducible repeat (first | refine blk_drewN ?_ _ | refine blk_drew ?_ | refine blk_alloc ?_ _)); exact BK441.out) hb)
              have n2_ := Aside0.mk (below_step (by repeat (first | (with_reducible first | exact HB.out | apply below_alloc | apply pw_below_drewN | apply below_drew1 | refine below_set ?_ GE440.out | refine below_set ?_ GE441.out) | exact HB.out)) hb)
              clear BK440
              clear BK441
              clear HB
              have BK440 := n0_
              have BK441 := n1_
              have HB := n2_
              clear n0_ n1_ n2_
              (try clear hb)
              (try clear hb2)
              (try clear hk)
              (try clear hi)
              refine hK.out _ _ ⟨(blk_cell BK440.out 0).trans rfl, (blk_cell BK440.out 1).trans rfl, (blk_cell BK440.out 2).trans rfl, (blk_cell BK440.out 3).trans rfl, (blk_cell BK441.out 0).trans rfl, (blk_cell BK441.out 1).trans rfl, (blk_cell BK441.out 2).trans rfl, (blk_cell BK441.out 3).trans rfl⟩ (fun hHeld => ?_)
              clear hK K
              refine norm_ (a' := ?_) ?_ ?_
              rotate_left
              · show Act.put _ (some 39) _ = _
                simp only [Act.put, List.setIfInBounds_toArray, List.set_cons_zero, List.set_cons_succ, i64_w, i32_w]
                rfl
              refine one_ (i := 10) (N := some 42) #[true, true, true, true, true, true, true, true, true, true, true, false, false] rfl rfl (one_of HT_.out (by kernel_rfl)) (by decide) (fun K hK => ?_)
              refine goes_ Tryd.func41 (by kernel_rfl) rfl #[.agg #[.slice A1_0 l1_0.length c1_0, .bool a1_1, .int .i64 a1_2, .string a1_3], .agg #[.slice A0_0 l0_0.length c0_0, .bool a0_1, .int .i64 a0_2, .string a0_3]] (by rfl) rfl rfl (by (try simp only [List.map_toArray, List.map_cons, List.map_nil]); first | done | rfl | (simp only [List.length_drop, List.length_take]; rfl)) ?_
              with_reducible refine (desc_Same.calls kj4 _ _ l1_0 a1_1 a1_2 a1_3 _ _ l0_0 a0_1 a0_2 a0_3 t451 _ ?side1 ?side2 ?side3 ?side4 A32.out).mono ?_
              (case side1 => repeat (first | exact (Kd.C_below HR1_0.out HB.out) | (with_reducible refine Kd.C_alloc ?_ _) | (with_reducible refine Kd.C_drewN ?_ _) | (with_reducible refine Kd.C_drew ?_)))
              (case side2 => exact HC1_0.out)
              (case side3 => repeat (first | exact (Kd.C_below HR0_0.out HB.out) | (with_reducible refine Kd.C_alloc ?_ _) | (with_reducible refine Kd.C_drewN ?_ _) | (with_reducible refine Kd.C_drew ?_)))
              (case side4 => exact HC0_0.out)
              rintro e w36 ⟨rfl, hb⟩
              refine ⟨_, rfl, ?_⟩
              have n0_ := Aside0.mk (blk_below (g := gb440) (o := .cells #[.slice A0_0 l0_0.length c0_0, .bool a0_1, .int .i64 a0_2, .string a0_3] 32 (0, 0)) (by (with_reducible repeat (first | refine blk_drewN ?_ _ | refine blk_drew ?_ | refine blk_alloc ?_ _)); exact BK440.out) hb)
              have n1_ := Aside0.mk (blk_below (g := gb441) (o := .cells #[.slice A1_0 l1_0.length c1_0, .bool a1_1, .int .i64 a1_2, .string a1_3] 32 (0, 0)) (by (with_reducible repeat (first | refine blk_drewN ?_ _ | refine blk_drew ?_ | refine blk_alloc ?_ _)); exact BK441.out) hb)
              have n2_ := Aside0.mk (below_step (by repeat (first | (with_reducible first | exact HB.out | apply below_alloc | apply pw_below_drewN | apply below_drew1 | refine below_set ?_ GE440.out | refine below_set ?_ GE441.out) | exact HB.out)) hb)
              clear BK440
              clear BK441
              clear HB
              have BK440 := n0_
              have BK441 := n1_
              have HB := n2_
              clear n0_ n1_ n2_
              (try clear hb)
              (try clear hb2)
              (try clear hk)
              (try clear hi)
              refine hK.out _ _ ⟨(blk_cell BK440.out 0).trans rfl, (blk_cell BK440.out 1).trans rfl, (blk_cell BK440.out 2).trans rfl, (blk_cell BK440.out 3).trans rfl, (blk_cell BK441.out 0).trans rfl, (blk_cell BK441.out 1).trans rfl, (blk_cell BK441.out 2).trans rfl, (blk_cell BK441.out 3).trans rfl⟩ (fun hHeld => ?_)
              clear hK K
              refine norm_ (a' := ?_) ?_ ?_
              rotate_left
              · show Act.put _ (some 42) _ = _
                simp only [Act.put, List.setIfInBounds_toArray, List.set_cons_zero, List.set_cons_succ, i64_w, i32_w]
                rfl
              refine pure_ (i := 11) (N := some 43) (v := ?_) (a' := ?_) #[true, true, true, true, true, true, true, true, true, true, true, true, false] rfl rfl (any_of HT_.out (by kernel_rfl)) (fun _ _ _ h => h) (Or.inl ⟨by rfl, ?_⟩) ?_ ?_
              rotate_left
              · intro w'
                go_simp
                with_reducible rfl
              rotate_left
              · simp only [Act.put, List.setIfInBounds_toArray, List.set_cons_zero, List.set_cons_succ, i64_w, i32_w]
                rfl
              refine pure_ (i := 12) (N := some 44) (v := ?_) (a' := ?_) #[true, true, true, true, true, true, true, true, true, true, true, true, true] rfl rfl (any_of HT_.out (by kernel_rfl)) (fun _ _ _ h => h) (Or.inl ⟨by rfl, ?_⟩) ?_ ?_
              rotate_left
              · intro w'
                go_simp
                with_reducible rfl
              rotate_left
              · simp only [Act.put, List.setIfInBounds_toArray, List.set_cons_zero, List.set_cons_succ, i64_w, i32_w]
                rfl
              refine done_ (done_of HT_.out (by kernel_rfl)) ?_
              try go_wp2
              go_meet
              case rel => exact ⟨_, ((t450 != t451)), (by first | rfl | (simp; done) | (simp [*]; done) | (simp [wrap64]; done)), H', ⟨by have := HJ4.out; first | omega | exact Nat.le_refl _⟩, ⟨by (with_reducible repeat (first | refine blk_drewN ?_ _ | refine blk_drew ?_ | refine blk_alloc ?_ _)); exact BK440.out⟩, ⟨by (with_reducible repeat (first | refine blk_drewN ?_ _ | refine blk_drew ?_ | refine blk_alloc ?_ _)); exact BK441.out⟩, ⟨by repeat (first | (with_reducible first | exact HB.out | apply below_alloc | apply pw_below_drewN | apply below_drew1 | refine below_set ?_ GE440.out | refine below_set ?_ GE441.out) | exact HB.out)⟩⟩
            · replace c30 := Bool.eq_false_iff.mpr c30
              subst c30
              have H1 : (keystonelaw2_DescSame.j1 kj4 t445 t446 t447 t448 true l0_0 a0_1 a0_2 a0_3 l1_0 a1_1 a1_2 a1_3) = some r := by rw [if_neg (show ¬ (false = true) by decide)] at H; exact H
              clear H
              have H := H1
              clear H1
              have H' := Aside0.mk H
              clear H
              try go_wp2
              have n0_ := Aside0.mk (blk_drew BK440.out)
              have n1_ := Aside0.mk (blk_drew BK441.out)
              have n2_ := Aside0.mk (below_drew1 HB.out)
              clear BK440
              clear BK441
              clear HB
              have BK440 := n0_
              have BK441 := n1_
              have HB := n2_
              clear n0_ n1_ n2_
              refine start_ (n := 13) (S := fun w' => w'.cell? ⟨gb440, 0, none⟩ = some (.slice A0_0 l0_0.length c0_0) ∧ w'.cell? ⟨gb440, 1, none⟩ = some (.bool a0_1) ∧ w'.cell? ⟨gb440, 2, none⟩ = some (.int .i64 a0_2) ∧ w'.cell? ⟨gb440, 3, none⟩ = some (.string a0_3)) (ds := []) #[false, false, false, false, false, false, false, false, false, false, false, false, false] (by kernel_rfl) rfl rfl ⟨(blk_cell BK440.out 0).trans rfl, (blk_cell BK440.out 1).trans rfl, (blk_cell BK440.out 2).trans rfl, (blk_cell BK440.out 3).trans rfl⟩ (fun hHeld => ?_); refine with_tabW keystonelaw2_DescSame.tab7 keystonelaw2_DescSame.bits7 (fun HT_ HW_ => ?_)
              generalize w28.drew = w37 at BK440 BK441 HB hHeld ⊢
              refine take_ (i := 0) (N := some 32) (v := ?_) (a' := ?_) #[true, false, false, false, false, false, false, false, false, false, false, false, false] rfl rfl (take_ofW HT_.out HW_.out (by kernel_rfl)) (fun _ _ _ h => h) (Or.inl ⟨by rfl, ?_⟩) hHeld ?_ ?_
              rotate_left
              · rintro w' ⟨s0, s1, s2, s3⟩
                go_simp
                with_reducible rfl
              rotate_left
              · simp only [Act.put, List.setIfInBounds_toArray, List.set_cons_zero, List.set_cons_succ, i64_w, i32_w]
                rfl
              refine take_ (i := 1) (N := some 33) (v := ?_) (a' := ?_) #[true, true, false, false, false, false, false, false, false, false, false, false, false] rfl rfl (take_ofW HT_.out HW_.out (by kernel_rfl)) (fun _ _ _ h => h) (Or.inl ⟨by rfl, ?_⟩) hHeld ?_ ?_
              rotate_left
              · rintro w' ⟨s0, s1, s2, s3⟩
                go_simp
                with_reducible rfl
              rotate_left
              · simp only [Act.put, List.setIfInBounds_toArray, List.set_cons_zero, List.set_cons_succ, i64_w, i32_w]
                rfl
              refine one_ (i := 2) (N := some 34) #[true, true, true, false, false, false, false, false, false, false, false, false, false] rfl rfl (one_of HT_.out (by kernel_rfl)) (by decide) (fun K hK => ?_)
              refine goes_ Tryd.func41 (by kernel_rfl) rfl #[.agg #[.slice A0_0 l0_0.length c0_0, .bool a0_1, .int .i64 a0_2, .string a0_3], .agg #[.slice A0_0 l0_0.length c0_0, .bool a0_1, .int .i64 a0_2, .string a0_3]] (by rfl) rfl rfl (by (try simp only [List.map_toArray, List.map_cons, List.map_nil]); first | done | rfl | (simp only [List.length_drop, List.length_take]; rfl)) ?_
              with_reducible refine (desc_Same.calls kj4 _ _ l0_0 a0_1 a0_2 a0_3 _ _ l0_0 a0_1 a0_2 a0_3 false _ ?side1 ?side2 ?side3 ?side4 A29.out).mono ?_
              (case side1 => repeat (first | exact (Kd.C_below HR0_0.out HB.out) | (with_reducible refine Kd.C_alloc ?_ _) | (with_reducible refine Kd.C_drewN ?_ _) | (with_reducible refine Kd.C_drew ?_)))
              (case side2 => exact HC0_0.out)
              (case side3 => repeat (first | exact (Kd.C_below HR0_0.out HB.out) | (with_reducible refine Kd.C_alloc ?_ _) | (with_reducible refine Kd.C_drewN ?_ _) | (with_reducible refine Kd.C_drew ?_)))
              (case side4 => exact HC0_0.out)
              rintro e w38 ⟨rfl, hb⟩
              refine ⟨_, rfl, ?_⟩
              have n0_ := Aside0.mk (blk_below (g := gb440) (o := .cells #[.slice A0_0 l0_0.length c0_0, .bool a0_1, .int .i64 a0_2, .string a0_3] 32 (0, 0)) (by (with_reducible repeat (first | refine blk_drewN ?_ _ | refine blk_drew ?_ | refine blk_alloc ?_ _)); exact BK440.out) hb)
              have n1_ := Aside0.mk (blk_below (g := gb441) (o := .cells #[.slice A1_0 l1_0.length c1_0, .bool a1_1, .int .i64 a1_2, .string a1_3] 32 (0, 0)) (by (with_reducible repeat (first | refine blk_drewN ?_ _ | refine blk_drew ?_ | refine blk_alloc ?_ _)); exact BK441.out) hb)
              have n2_ := Aside0.mk (below_step (by repeat (first | (with_reducible first | exact HB.out | apply below_alloc | apply pw_below_drewN | apply below_drew1 | refine below_set ?_ GE440.out | refine below_set ?_ GE441.out) | exact HB.out)) hb)
              clear BK440
              clear BK441
              clear HB
              have BK440 := n0_
              have BK441 := n1_
              have HB := n2_
              clear n0_ n1_ n2_
              (try clear hb)
              (try clear hb2)
              (try clear hk)
              (try clear hi)
              refine hK.out _ _ ⟨(blk_cell BK440.out 0).trans rfl, (blk_cell BK440.out 1).trans rfl, (blk_cell BK440.out 2).trans rfl, (blk_cell BK440.out 3).trans rfl⟩ (fun hHeld => ?_)
              clear hK K
              refine norm_ (a' := ?_) ?_ ?_
              rotate_left
              · show Act.put _ (some 34) _ = _
                simp only [Act.put, List.setIfInBounds_toArray, List.set_cons_zero, List.set_cons_succ, i64_w, i32_w]
                rfl
              refine pure_ (i := 3) (N := some 35) (v := ?_) (a' := ?_) #[true, true, true, true, false, false, false, false, false, false, false, false, false] rfl rfl (any_of HT_.out (by kernel_rfl)) (fun _ _ _ h => h) (Or.inl ⟨by rfl, ?_⟩) ?_ ?_
              rotate_left
              · intro w'
                go_simp
                with_reducible rfl
              rotate_left
              · simp only [Act.put, List.setIfInBounds_toArray, List.set_cons_zero, List.set_cons_succ, i64_w, i32_w]
                rfl
              refine pure_ (i := 4) (N := some 36) (v := ?_) (a' := ?_) #[true, true, true, true, true, false, false, false, false, false, false, false, false] rfl rfl (any_of HT_.out (by kernel_rfl)) (fun _ _ _ h => h) (Or.inl ⟨by rfl, ?_⟩) ?_ ?_
              rotate_left
              · intro w'
                go_simp
                with_reducible rfl
              rotate_left
              · simp only [Act.put, List.setIfInBounds_toArray, List.set_cons_zero, List.set_cons_succ, i64_w, i32_w]
                rfl
              refine pure_ (i := 5) (N := some 37) (v := undef) (a' := ?_) #[true, true, true, true, true, true, false, false, false, false, false, false, false] rfl rfl (any_of HT_.out (by kernel_rfl)) (fun _ _ _ h => h) (Or.inr ⟨by rfl, rfl⟩) ?_ ?_
              rotate_left
              · simp only [Act.put, List.setIfInBounds_toArray, List.set_cons_zero, List.set_cons_succ, i64_w, i32_w]
                rfl
              refine pure_ (i := 6) (N := some 38) (v := undef) (a' := ?_) #[true, true, true, true, true, true, true, false, false, false, false, false, false] rfl rfl (any_of HT_.out (by kernel_rfl)) (fun _ _ _ h => h) (Or.inr ⟨by rfl, rfl⟩) ?_ ?_
              rotate_left
              · simp only [Act.put, List.setIfInBounds_toArray, List.set_cons_zero, List.set_cons_succ, i64_w, i32_w]
                rfl
              refine pure_ (i := 7) (N := some 39) (v := undef) (a' := ?_) #[true, true, true, true, true, true, true, true, false, false, false, false, false] rfl rfl (any_of HT_.out (by kernel_rfl)) (fun _ _ _ h => h) (Or.inr ⟨by rfl, rfl⟩) ?_ ?_
              rotate_left
              · simp only [Act.put, List.setIfInBounds_toArray, List.set_cons_zero, List.set_cons_succ, i64_w, i32_w]
                rfl
              refine pure_ (i := 8) (N := some 40) (v := undef) (a' := ?_) #[true, true, true, true, true, true, true, true, true, false, false, false, false] rfl rfl (any_of HT_.out (by kernel_rfl)) (fun _ _ _ h => h) (Or.inr ⟨by rfl, rfl⟩) ?_ ?_
              rotate_left
              · simp only [Act.put, List.setIfInBounds_toArray, List.set_cons_zero, List.set_cons_succ, i64_w, i32_w]
                rfl
              refine pure_ (i := 9) (N := some 41) (v := undef) (a' := ?_) #[true, true, true, true, true, true, true, true, true, true, false, false, false] rfl rfl (any_of HT_.out (by kernel_rfl)) (fun _ _ _ h => h) (Or.inr ⟨by rfl, rfl⟩) ?_ ?_
              rotate_left
              · simp only [Act.put, List.setIfInBounds_toArray, List.set_cons_zero, List.set_cons_succ, i64_w, i32_w]
                rfl
              refine pure_ (i := 10) (N := some 42) (v := undef) (a' := ?_) #[true, true, true, true, true, true, true, true, true, true, true, false, false] rfl rfl (any_of HT_.out (by kernel_rfl)) (fun _ _ _ h => h) (Or.inr ⟨by rfl, rfl⟩) ?_ ?_
              rotate_left
              · simp only [Act.put, List.setIfInBounds_toArray, List.set_cons_zero, List.set_cons_succ, i64_w, i32_w]
                rfl
              refine pure_ (i := 11) (N := some 43) (v := undef) (a' := ?_) #[true, true, true, true, true, true, true, true, true, true, true, true, false] rfl rfl (any_of HT_.out (by kernel_rfl)) (fun _ _ _ h => h) (Or.inr ⟨by rfl, rfl⟩) ?_ ?_
              rotate_left
              · simp only [Act.put, List.setIfInBounds_toArray, List.set_cons_zero, List.set_cons_succ, i64_w, i32_w]
                rfl
              refine pure_ (i := 12) (N := some 44) (v := ?_) (a' := ?_) #[true, true, true, true, true, true, true, true, true, true, true, true, true] rfl rfl (any_of HT_.out (by kernel_rfl)) (fun _ _ _ h => h) (Or.inl ⟨by rfl, ?_⟩) ?_ ?_
              rotate_left
              · intro w'
                go_simp
                with_reducible rfl
              rotate_left
              · simp only [Act.put, List.setIfInBounds_toArray, List.set_cons_zero, List.set_cons_succ, i64_w, i32_w]
                rfl
              refine done_ (done_of HT_.out (by kernel_rfl)) ?_
              try go_wp2
              go_meet
              case rel => exact ⟨_, (true), (by first | rfl | (simp; done) | (simp [*]; done) | (simp [wrap64]; done)), H', ⟨by have := HJ4.out; first | omega | exact Nat.le_refl _⟩, ⟨by (with_reducible repeat (first | refine blk_drewN ?_ _ | refine blk_drew ?_ | refine blk_alloc ?_ _)); exact BK440.out⟩, ⟨by (with_reducible repeat (first | refine blk_drewN ?_ _ | refine blk_drew ?_ | refine blk_alloc ?_ _)); exact BK441.out⟩, ⟨by repeat (first | (with_reducible first | exact HB.out | apply below_alloc | apply pw_below_drewN | apply below_drew1 | refine below_set ?_ GE440.out | refine below_set ?_ GE441.out) | exact HB.out)⟩⟩
          case rest =>
            clear HC23
            try clear c1
            try clear c2
            try clear p2
            try clear c3
            try clear c4
            try clear c10
            try clear c12
            try clear c13
            try clear c15
            try clear c17
            try clear c20
            try clear c24
            try clear c30
            try clear c34
            try clear c35
            try clear hcz13_0
            try clear hcz13_1
            try clear hcz13_2
            try clear hcz13_3
            try clear hcz15_0
            try clear hcz15_1
            try clear hcz15_2
            try clear hcz15_3
            try clear hcz18_0
            try clear hcz18_1
            try clear hcz18_2
            try clear hcz18_3
            try clear hcz25_0
            try clear hcz25_1
            try clear hcz25_2
            try clear hcz25_3
            try clear hcz27_0
            try clear hcz27_1
            try clear hcz27_2
            try clear hcz27_3
            try clear hfz13_0
            try clear hfz13_1
            try clear hfz13_2
            try clear hfz13_3
            try clear hfz15_0
            try clear hfz15_1
            try clear hfz15_2
            try clear hfz15_3
            try clear hfz18_0
            try clear hfz18_1
            try clear hfz18_2
            try clear hfz18_3
            try clear hfz25_0
            try clear hfz25_1
            try clear hfz25_2
            try clear hfz25_3
            try clear hfz27_0
            try clear hfz27_1
            try clear hfz27_2
            try clear hfz27_3
            try clear p2
            obtain ⟨kq, x44_22, rfl, HA, HJ22, BK440, BK441, HB⟩ := hcut
            cases kq with
            | zero => exact absurd HA.out (by simp [keystonelaw2_DescSame.j1])
            | succ kj22 =>
              have H := HA.out
              clear HA
              simp only [keystonelaw2_DescSame.j1] at H
              by_cases c39 : x44_22 = true
              · subst c39
                have H1 : (some false) = some r := by rw [if_pos rfl] at H; exact H
                clear H
                have H := H1
                clear H1
                obtain rfl := Option.some.inj H
                exact absurd HT.out (by decide)
              · replace c39 := Bool.eq_false_iff.mpr c39
                subst c39
                have H1 : (if t446 = 0 then (keystonelaw2_DescSame.j2 kj22 t445 t447 (t448 != 0) l0_0 a0_1 a0_2 a0_3 l1_0 a1_1 a1_2 a1_3) else (keystonelaw2_DescSame.j2 kj22 t445 t447 true l0_0 a0_1 a0_2 a0_3 l1_0 a1_1 a1_2 a1_3)) = some r := by rw [if_neg (show ¬ (false = true) by decide)] at H; exact H
                clear H
                have H := H1
                clear H1
                have HC40 := Aside0.mk H
                clear H
                go_upto_region 9 with (fail)
                go_cut [50] (fun v50 wc => ∃ (kq : Nat) (x50_39 : Bool), v50 = .bool x50_39 ∧ Aside0 (keystonelaw2_DescSame.j2 kq t445 t447 x50_39 l0_0 a0_1 a0_2 a0_3 l1_0 a1_1 a1_2 a1_3 = some r) ∧ Aside0 (kq ≤ kj22) ∧ Aside0 (wc.heap[gb440]? = some (.cells #[(.slice A0_0 l0_0.length c0_0), .bool a0_1, .int .i64 a0_2, .string a0_3] 32 (0, 0))) ∧ Aside0 (wc.heap[gb441]? = some (.cells #[(.slice A1_0 l1_0.length c1_0), .bool a1_1, .int .i64 a1_2, .string a1_3] 32 (0, 0))) ∧ Aside0 (Below w.heap.size w wc))
                case first =>
                  have H := HC40.out
                  clear HC40
                  by_cases c41 : t446 = 0
                  · rw [if_pos c41] at H
                    have c41b0 : (t446 == 0) = true := beq_iff_eq.mpr c41
                    have c41b1 : (t446 != 0) = false := bne_eq_false_iff_eq.mpr c41
                    clear c41
                    (first | rw [c41b0] | (simp only [i64_w, i32_w]; rw [c41b0]) | skip)
                    have H' := Aside0.mk H
                    clear H
                    go_wp2
                    go_meet
                    case rel => exact ⟨_, ((t448 != 0)), (by first | rfl | (simp; done) | (simp [*]; done) | (simp [wrap64]; done)), H', ⟨by have := HJ4.out; have := HJ22.out; first | omega | exact Nat.le_refl _⟩, ⟨by (with_reducible repeat (first | refine blk_drewN ?_ _ | refine blk_drew ?_ | refine blk_alloc ?_ _)); exact BK440.out⟩, ⟨by (with_reducible repeat (first | refine blk_drewN ?_ _ | refine blk_drew ?_ | refine blk_alloc ?_ _)); exact BK441.out⟩, ⟨by repeat (first | (with_reducible first | exact HB.out | apply below_alloc | apply pw_below_drewN | apply below_drew1 | refine below_set ?_ GE440.out | refine below_set ?_ GE441.out) | exact HB.out)⟩⟩
                  · rw [if_neg c41] at H
                    have c41b0 : (t446 == 0) = false := beq_eq_false_iff_ne.mpr c41
                    have c41b1 : (t446 != 0) = true := bne_iff_ne.mpr c41
                    (first | rw [c41b0] | (simp only [i64_w, i32_w]; rw [c41b0]) | skip)
                    have H' := Aside0.mk H
                    clear H
                    go_wp2
                    go_meet
                    case rel => exact ⟨_, (true), (by first | rfl | (simp; done) | (simp [*]; done) | (simp [wrap64]; done)), H', ⟨by have := HJ4.out; have := HJ22.out; first | omega | exact Nat.le_refl _⟩, ⟨by (with_reducible repeat (first | refine blk_drewN ?_ _ | refine blk_drew ?_ | refine blk_alloc ?_ _)); exact BK440.out⟩, ⟨by (with_reducible repeat (first | refine blk_drewN ?_ _ | refine blk_drew ?_ | refine blk_alloc ?_ _)); exact BK441.out⟩, ⟨by repeat (first | (with_reducible first | exact HB.out | apply below_alloc | apply pw_below_drewN | apply below_drew1 | refine below_set ?_ GE440.out | refine below_set ?_ GE441.out) | exact HB.out)⟩⟩
                case rest =>
                  clear HC40
                  try clear c1
                  try clear c2
                  try clear p2
                  try clear c3
                  try clear c4
                  try clear c10
                  try clear c12
                  try clear c13
                  try clear c15
                  try clear c17
                  try clear c20
                  try clear c24
                  try clear c30
                  try clear c34
                  try clear c35
                  try clear c39
                  try clear c41
                  try clear c41b0
                  try clear c41b1
                  try clear hcz13_0
                  try clear hcz13_1
                  try clear hcz13_2
                  try clear hcz13_3
                  try clear hcz15_0
                  try clear hcz15_1
                  try clear hcz15_2
                  try clear hcz15_3
                  try clear hcz18_0
                  try clear hcz18_1
                  try clear hcz18_2
                  try clear hcz18_3
                  try clear hcz25_0
                  try clear hcz25_1
                  try clear hcz25_2
                  try clear hcz25_3
                  try clear hcz27_0
                  try clear hcz27_1
                  try clear hcz27_2
                  try clear hcz27_3
                  try clear hfz13_0
                  try clear hfz13_1
                  try clear hfz13_2
                  try clear hfz13_3
                  try clear hfz15_0
                  try clear hfz15_1
                  try clear hfz15_2
                  try clear hfz15_3
                  try clear hfz18_0
                  try clear hfz18_1
                  try clear hfz18_2
                  try clear hfz18_3
                  try clear hfz25_0
                  try clear hfz25_1
                  try clear hfz25_2
                  try clear hfz25_3
                  try clear hfz27_0
                  try clear hfz27_1
                  try clear hfz27_2
                  try clear hfz27_3
                  try clear p2
                  obtain ⟨kq, x50_39, rfl, HA, HJ39, BK440, BK441, HB⟩ := hcut
                  cases kq with
                  | zero => exact absurd HA.out (by simp [keystonelaw2_DescSame.j2])
                  | succ kj39 =>
                    have H := HA.out
                    clear HA
                    simp only [keystonelaw2_DescSame.j2] at H
                    by_cases c42 : x50_39 = true
                    · subst c42
                      have H1 : (some true) = some r := by rw [if_pos rfl] at H; exact H
                      clear H
                      have H := H1
                      clear H1
                      obtain rfl := Option.some.inj H
                      go_wp2
                      go_ret
                      exact ⟨by first | rfl | (simp [errW_none, errW_some] <;> rfl) | (simp [*, errW_none, errW_some] <;> rfl), by repeat (first | (with_reducible first | exact HB.out | apply below_alloc | apply pw_below_drewN | apply below_drew1 | refine below_set ?_ GE440.out | refine below_set ?_ GE441.out) | exact HB.out)⟩
                    · replace c42 := Bool.eq_false_iff.mpr c42
                      subst c42
                      have H1 : ((some (([] : List (S26)) : List (S26))).bind fun y452 => (if y452.length + l0_0.length < 5864062014805 then ((some (y452 ++ l0_0 : List (S26))).bind fun y455 => (if a0_1 = true then ((desc_Make.f kj39 a0_1 y455).bind fun bt458 => ((desc_Same.f kj39 l0_0 a0_1 a0_2 a0_3 l1_0 a1_1 a1_2 a1_3).bind fun t466 => (if (t466 == (t445.toList == t447.toList)) = true then (if bt458.2.2.2.2 = 0 then ((desc_Same.f kj39 bt458.1 bt458.2.1 bt458.2.2.1 bt458.2.2.2.1 l0_0 a0_1 a0_2 a0_3).bind fun t467 => (some t467)) else (some false)) else (some false)))) else (if y455.length < 5864062014805 then ((desc_Make.f kj39 a0_1 (y455 ++ [(⟨a0_2, a0_3⟩ : S26)])).bind fun bt471 => ((desc_Same.f kj39 l0_0 a0_1 a0_2 a0_3 l1_0 a1_1 a1_2 a1_3).bind fun t479 => (if (t479 == (t445.toList == t447.toList)) = true then (if bt471.2.2.2.2 = 0 then ((desc_Same.f kj39 bt471.1 bt471.2.1 bt471.2.2.1 bt471.2.2.2.1 l0_0 a0_1 a0_2 a0_3).bind fun t480 => (some t480)) else (some false)) else (some false)))) else (none)))) else (none))) = some r := by rw [if_neg (show ¬ (false = true) by decide)] at H; exact H
                      clear H
                      have H := H1
                      clear H1
                      obtain ⟨y452, hy452⟩ : ∃ y_ : List (S26), y_ = (([] : List (S26))) := ⟨_, rfl⟩
                      replace H : (if y452.length + l0_0.length < 5864062014805 then ((some (y452 ++ l0_0 : List (S26))).bind fun y455 => (if a0_1 = true then ((desc_Make.f kj39 a0_1 y455).bind fun bt458 => ((desc_Same.f kj39 l0_0 a0_1 a0_2 a0_3 l1_0 a1_1 a1_2 a1_3).bind fun t466 => (if (t466 == (t445.toList == t447.toList)) = true then (if bt458.2.2.2.2 = 0 then ((desc_Same.f kj39 bt458.1 bt458.2.1 bt458.2.2.1 bt458.2.2.2.1 l0_0 a0_1 a0_2 a0_3).bind fun t467 => (some t467)) else (some false)) else (some false)))) else (if y455.length < 5864062014805 then ((desc_Make.f kj39 a0_1 (y455 ++ [(⟨a0_2, a0_3⟩ : S26)])).bind fun bt471 => ((desc_Same.f kj39 l0_0 a0_1 a0_2 a0_3 l1_0 a1_1 a1_2 a1_3).bind fun t479 => (if (t479 == (t445.toList == t447.toList)) = true then (if bt471.2.2.2.2 = 0 then ((desc_Same.f kj39 bt471.1 bt471.2.1 bt471.2.2.1 bt471.2.2.2.1 l0_0 a0_1 a0_2 a0_3).bind fun t480 => (some t480)) else (some false)) else (some false)))) else (none)))) else (none)) = some r := by first | (rw [hy452]; with_reducible exact H) | (have H2_ := (Option.bind_some _ _).symm.trans H; rw [hy452]; with_reducible exact H2_) | (have H2_ := (Option.bind_some _ _).symm.trans H; with_reducible exact H2_) | with_reducible exact H | (rw [hy452]; exact H) | exact H
                      have Ny452 := Aside0.mk hy452
                      clear hy452
                      by_cases c43 : y452.length + l0_0.length < 5864062014805
                      · rw [if_pos c43] at H
                        have LMc43 := Aside0.mk c43
                        clear c43
                        obtain ⟨y455, hy455⟩ : ∃ y_ : List (S26), y_ = (y452 ++ l0_0) := ⟨_, rfl⟩
                        replace H : (if a0_1 = true then ((desc_Make.f kj39 a0_1 y455).bind fun bt458 => ((desc_Same.f kj39 l0_0 a0_1 a0_2 a0_3 l1_0 a1_1 a1_2 a1_3).bind fun t466 => (if (t466 == (t445.toList == t447.toList)) = true then (if bt458.2.2.2.2 = 0 then ((desc_Same.f kj39 bt458.1 bt458.2.1 bt458.2.2.1 bt458.2.2.2.1 l0_0 a0_1 a0_2 a0_3).bind fun t467 => (some t467)) else (some false)) else (some false)))) else (if y455.length < 5864062014805 then ((desc_Make.f kj39 a0_1 (y455 ++ [(⟨a0_2, a0_3⟩ : S26)])).bind fun bt471 => ((desc_Same.f kj39 l0_0 a0_1 a0_2 a0_3 l1_0 a1_1 a1_2 a1_3).bind fun t479 => (if (t479 == (t445.toList == t447.toList)) = true then (if bt471.2.2.2.2 = 0 then ((desc_Same.f kj39 bt471.1 bt471.2.1 bt471.2.2.1 bt471.2.2.2.1 l0_0 a0_1 a0_2 a0_3).bind fun t480 => (some t480)) else (some false)) else (some false)))) else (none))) = some r := by first | (rw [hy455]; with_reducible exact H) | (have H2_ := (Option.bind_some _ _).symm.trans H; rw [hy455]; with_reducible exact H2_) | (have H2_ := (Option.bind_some _ _).symm.trans H; with_reducible exact H2_) | with_reducible exact H | (rw [hy455]; exact H) | exact H
                        have Ny455 := Aside0.mk hy455
                        clear hy455
                        by_cases c44 : a0_1 = true
                        · subst c44
                          have H1 : ((desc_Make.f kj39 true y455).bind fun bt458 => ((desc_Same.f kj39 l0_0 true a0_2 a0_3 l1_0 a1_1 a1_2 a1_3).bind fun t466 => (if (t466 == (t445.toList == t447.toList)) = true then (if bt458.2.2.2.2 = 0 then ((desc_Same.f kj39 bt458.1 bt458.2.1 bt458.2.2.1 bt458.2.2.2.1 l0_0 true a0_2 a0_3).bind fun t467 => (some t467)) else (some false)) else (some false)))) = some r := by rw [if_pos rfl] at H; exact H
                          clear H
                          have H := H1
                          clear H1
                          replace H := Option.bind_eq_some_iff.mp H
                          obtain ⟨⟨t458, t461, t462, t463, t464⟩, A450, H⟩ := H
                          replace H : ((desc_Same.f kj39 l0_0 true a0_2 a0_3 l1_0 a1_1 a1_2 a1_3).bind fun t466 => (if (t466 == (t445.toList == t447.toList)) = true then (if t464 = 0 then ((desc_Same.f kj39 t458 t461 t462 t463 l0_0 true a0_2 a0_3).bind fun t467 => (some t467)) else (some false)) else (some false))) = some r := H
                          have A45 := Aside0.mk A450
                          clear A450
                          replace H := Option.bind_eq_some_iff.mp H
                          obtain ⟨t466, A460, H⟩ := H
                          replace H : (if (t466 == (t445.toList == t447.toList)) = true then (if t464 = 0 then ((desc_Same.f kj39 t458 t461 t462 t463 l0_0 true a0_2 a0_3).bind fun t467 => (some t467)) else (some false)) else (some false)) = some r := H
                          have A46 := Aside0.mk A460
                          clear A460
                          by_cases c47 : (t466 == (t445.toList == t447.toList)) = true
                          · rw [if_pos c47] at H
                            have c47b0 : (t466 == (t445.toList == t447.toList)) = true := c47
                            (try (have c47b1 : decide (t466 = (t445.toList == t447.toList)) = true := by simpa using c47))
                            (try (have c47b2 : (t466 == (t445.toList == t447.toList)) = true := by simpa using c47))
                            clear c47
                            by_cases c48 : t464 = 0
                            · rw [if_pos c48] at H
                              have c48b0 : (t464 == 0) = true := beq_iff_eq.mpr c48
                              have c48b1 : (t464 != 0) = false := bne_eq_false_iff_eq.mpr c48
                              clear c48
                              replace H := Option.bind_eq_some_iff.mp H
                              obtain ⟨t467, A490, H⟩ := H
                              replace H : (some t467) = some r := H
                              have A49 := Aside0.mk A490
                              clear A490
                              obtain rfl := Option.some.inj H
                              go_wp2_with (first | ((with_reducible refine gate_dst (N := 51) rfl ?_); refine Kd.R_lit k26 _ 26 ?hg (N := 51) ?hd (xs := ([] : List (S26))) (inner := []) (ok := fun _ => True) (okp := fun _ => True) ?hr ?hp (fun _ hk => hk) trivial (Below.refl _ _) (Nat.le_refl _) (by simp) ?_; (case hd => rfl); (case hg => rfl); (case hr => first | (go_simp; done) | (go_simp; rfl)); (case hp => exact (Reps.none _ _)); intro v453 w50 ho51 hb hg_ hnew_; clear hg_ hnew_; (first | rw [← Ny452.out] at ho51 | (simp only [Int.reduceToNat] at ho51; rw [← Ny452.out] at ho51)); have n0_ := Aside0.mk (Kd.R_lower ho51 (below_size (by repeat (first | (with_reducible first | exact HB.out | apply below_alloc | apply pw_below_drewN | apply below_drew1 | refine below_set ?_ GE440.out | refine below_set ?_ GE441.out) | exact HB.out)))); have n1_ := Aside0.mk (blk_below (g := gb440) (o := .cells #[.slice A0_0 l0_0.length c0_0, .bool true, .int .i64 a0_2, .string a0_3] 32 (0, 0)) (by (with_reducible repeat (first | refine blk_drewN ?_ _ | refine blk_drew ?_ | refine blk_alloc ?_ _)); exact BK440.out) hb); have n2_ := Aside0.mk (blk_below (g := gb441) (o := .cells #[.slice A1_0 l1_0.length c1_0, .bool a1_1, .int .i64 a1_2, .string a1_3] 32 (0, 0)) (by (with_reducible repeat (first | refine blk_drewN ?_ _ | refine blk_drew ?_ | refine blk_alloc ?_ _)); exact BK441.out) hb); have n3_ := Aside0.mk (below_step (by repeat (first | (with_reducible first | exact HB.out | apply below_alloc | apply pw_below_drewN | apply below_drew1 | refine below_set ?_ GE440.out | refine below_set ?_ GE441.out) | exact HB.out)) hb); clear BK440; clear BK441; clear HB; have HO454 := n0_; have BK440 := n1_; have BK441 := n2_; have HB := n3_; clear n0_ n1_ n2_ n3_; clear hb ho51; have hnb52 := NB440_441.out; have hnc52 := NB441_440.out; have hcz53_0 : w50.cell? ⟨gb440, 0, none⟩ = some (.slice A0_0 l0_0.length c0_0) := (blk_cell BK440.out 0).trans rfl; have hcz53_1 : w50.cell? ⟨gb440, 1, none⟩ = some (.bool true) := (blk_cell BK440.out 1).trans rfl; have hcz53_2 : w50.cell? ⟨gb440, 2, none⟩ = some (.int .i64 a0_2) := (blk_cell BK440.out 2).trans rfl; have hcz53_3 : w50.cell? ⟨gb440, 3, none⟩ = some (.string a0_3) := (blk_cell BK440.out 3).trans rfl; have hfz53_0 := blk_frozen BK440.out 0; have hfz53_1 := blk_frozen BK440.out 1; have hfz53_2 := blk_frozen BK440.out 2; have hfz53_3 := blk_frozen BK440.out 3) | ((with_reducible refine gate_builtin (b := .append) (xs := #[.tmp 51, .tmp 53]) rfl ?_); at_builtin; refine Kd.R_append_rows k26 (w0 := w) w.heap.size rfl (.tmp 51) (.tmp 53) 30 26 (.agg #[(.int .i64 0), (.string ⟨#[]⟩)]) 24 rfl Tryd.underlying30 info26 rfl (by decide) (by omega) v453 y452 l0_0 _ _ _ (fun _ => True) (fun _ => False) rfl rfl ?aO ?aR (fun _ _ h => h) (fun _ h => h.elim) ?aF ?aB ?aS ?aL ?_; (case aR => repeat (first | exact (Kd.C_below HR0_0.out HB.out) | (with_reducible refine Kd.C_alloc ?_ _) | (with_reducible refine Kd.C_drewN ?_ _) | (with_reducible refine Kd.C_drew ?_))); (case aB => exact (by repeat (first | (with_reducible first | exact HB.out | apply below_alloc | apply pw_below_drewN | apply below_drew1 | refine below_set ?_ GE440.out | refine below_set ?_ GE441.out) | exact HB.out))); (case aF => exact (fun _ _ => trivial)); (case aO => exact (by (with_reducible repeat (first | apply Kd.R_alloc | apply Kd.R_drewN | apply Kd.R_drew)); exact HO454.out)); (case aS => exact (below_size (by repeat (first | (with_reducible first | exact HB.out | apply below_alloc | apply pw_below_drewN | apply below_drew1 | refine below_set ?_ GE440.out | refine below_set ?_ GE441.out) | exact HB.out)))); (case aL => have := LMc43.out; omega); intro v456 w54 ho hb hg hat; rw [← Ny455.out] at ho; have n0_ := Aside0.mk (blk_grown (g := gb440) (o := .cells #[.slice A0_0 l0_0.length c0_0, .bool true, .int .i64 a0_2, .string a0_3] 32 (0, 0)) (by (with_reducible repeat (first | refine blk_drewN ?_ _ | refine blk_drew ?_ | refine blk_alloc ?_ _)); exact BK440.out) hg (Kd.R_ne HO454.out BK440.out (by decide))); have n1_ := Aside0.mk (blk_grown (g := gb441) (o := .cells #[.slice A1_0 l1_0.length c1_0, .bool a1_1, .int .i64 a1_2, .string a1_3] 32 (0, 0)) (by (with_reducible repeat (first | refine blk_drewN ?_ _ | refine blk_drew ?_ | refine blk_alloc ?_ _)); exact BK441.out) hg (Kd.R_ne HO454.out BK441.out (by decide))); have n2_ := Aside0.mk (hb); have n3_ := Aside0.mk (ho); clear BK440; clear BK441; clear HB; clear HO454; have BK440 := n0_; have BK441 := n1_; have HB := n2_; have HO457 := n3_; clear n0_ n1_ n2_ n3_; clear ho hb hg hat; have hcz55_0 : w54.cell? ⟨gb440, 0, none⟩ = some (.slice A0_0 l0_0.length c0_0) := (blk_cell BK440.out 0).trans rfl; have hcz55_1 : w54.cell? ⟨gb440, 1, none⟩ = some (.bool true) := (blk_cell BK440.out 1).trans rfl; have hcz55_2 : w54.cell? ⟨gb440, 2, none⟩ = some (.int .i64 a0_2) := (blk_cell BK440.out 2).trans rfl; have hcz55_3 : w54.cell? ⟨gb440, 3, none⟩ = some (.string a0_3) := (blk_cell BK440.out 3).trans rfl; have hfz55_0 := blk_frozen BK440.out 0; have hfz55_1 := blk_frozen BK440.out 1; have hfz55_2 := blk_frozen BK440.out 2; have hfz55_3 := blk_frozen BK440.out 3; obtain ⟨Ao56, co56, eo56⟩ := Kd.R_slice HO457.out; subst eo56) | ((with_reducible refine gate_callee (f := 42) rfl ?_); refine goesL_ (some 67) rfl rfl Tryd.func42 (by kernel_rfl) rfl #[.bool true, .slice Ao56 y455.length co56] rfl (by (try simp only [List.map_toArray, List.map_cons, List.map_nil]); first | done | rfl | (simp only [List.length_drop, List.length_take]; rfl)) ?_; (with_reducible refine (desc_Make.calls kj39 true (fun k_ => some k_ = (.slice Ao56 y455.length co56 : Value).ownBlock) _ _ y455 t458 t461 t462 t463 t464 _ ?side1 A45.out).mono ?_); (case side1 => exact Kd.R_V (Kd.R_tight rfl (Kd.R_types (Kd.R_types (HO457.out) BK440.out (by decide)) BK441.out (by decide)))); rintro e w57 ⟨v459, rfl, ho0, hb⟩; refine ⟨_, rfl, ?_⟩; have n0_ := Aside0.mk (Kd.R_elder' (by (with_reducible repeat (first | apply Kd.R_alloc | apply Kd.R_drewN | apply Kd.R_drew)); exact HO457.out) (Kd.R_base ho0) hb); have n1_ := Aside0.mk (Kd.R_lower (Kd.R_new' (Kd.R_mono (ok' := fun k_ => True) ho0 (fun _ hk_ => trivial)) (Kd.R_lt (by (with_reducible repeat (first | apply Kd.R_alloc | apply Kd.R_drewN | apply Kd.R_drew)); exact HO457.out))) (below_size (by repeat (first | (with_reducible first | exact HB.out | apply below_alloc | apply pw_below_drewN | apply below_drew1 | refine below_set ?_ GE440.out | refine below_set ?_ GE441.out) | exact HB.out)))); have n2_ := Aside0.mk (blk_below (g := gb440) (o := .cells #[.slice A0_0 l0_0.length c0_0, .bool true, .int .i64 a0_2, .string a0_3] 32 (0, 0)) (by (with_reducible repeat (first | refine blk_drewN ?_ _ | refine blk_drew ?_ | refine blk_alloc ?_ _)); exact BK440.out) hb); have n3_ := Aside0.mk (blk_below (g := gb441) (o := .cells #[.slice A1_0 l1_0.length c1_0, .bool a1_1, .int .i64 a1_2, .string a1_3] 32 (0, 0)) (by (with_reducible repeat (first | refine blk_drewN ?_ _ | refine blk_drew ?_ | refine blk_alloc ?_ _)); exact BK441.out) hb); have n4_ := Aside0.mk (below_step (by repeat (first | (with_reducible first | exact HB.out | apply below_alloc | apply pw_below_drewN | apply below_drew1 | refine below_set ?_ GE440.out | refine below_set ?_ GE441.out) | exact HB.out)) hb); clear HO457; clear BK440; clear BK441; clear HB; have HO457 := n0_; have HO460 := n1_; have BK440 := n2_; have BK441 := n3_; have HB := n4_; clear n0_ n1_ n2_ n3_ n4_; (try clear hb); (try clear hb2); (try clear hk); (try clear hi); (try clear ho0)) | ((with_reducible refine gate_dst (N := 10) rfl ?_); refine box_event ?hg (N := 10) ?hd (cs := #[.slice none 0 0, .bool false, .int .i64 0, .string (⟨#[]⟩ : ByteArray)]) (t := 32) ?hr ?_; (case hd => rfl); (case hg => rfl); (case hr => first | (go_simp; done) | (go_simp; rfl)); intro gb465 hg w58 hbox hb; have n0_ := Aside0.mk (Kd.R_below (by (with_reducible repeat (first | apply Kd.R_alloc | apply Kd.R_drewN | apply Kd.R_drew)); exact HO457.out) hb); have n1_ := Aside0.mk (Kd.R_below (by (with_reducible repeat (first | apply Kd.R_alloc | apply Kd.R_drewN | apply Kd.R_drew)); exact HO460.out) hb); have n2_ := Aside0.mk (blk_below (g := gb440) (o := .cells #[.slice A0_0 l0_0.length c0_0, .bool true, .int .i64 a0_2, .string a0_3] 32 (0, 0)) (by (with_reducible repeat (first | refine blk_drewN ?_ _ | refine blk_drew ?_ | refine blk_alloc ?_ _)); exact BK440.out) hb); have n3_ := Aside0.mk (blk_below (g := gb441) (o := .cells #[.slice A1_0 l1_0.length c1_0, .bool a1_1, .int .i64 a1_2, .string a1_3] 32 (0, 0)) (by (with_reducible repeat (first | refine blk_drewN ?_ _ | refine blk_drew ?_ | refine blk_alloc ?_ _)); exact BK441.out) hb); have n4_ := Aside0.mk (below_step (by repeat (first | (with_reducible first | exact HB.out | apply below_alloc | apply pw_below_drewN | apply below_drew1 | refine below_set ?_ GE440.out | refine below_set ?_ GE441.out) | exact HB.out)) hb); have n5_ := Aside0.mk (hbox); have n6_ := Aside0.mk ((by rw [hg]; exact (below_size (by repeat (first | (with_reducible first | exact HB.out | apply below_alloc | apply pw_below_drewN | apply below_drew1 | refine below_set ?_ GE440.out | refine below_set ?_ GE441.out) | exact HB.out))) : w.heap.size ≤ gb465)); have n7_ := Aside0.mk ((by rw [hg]; exact (below_size (by repeat (first | (with_reducible first | exact HB.out | apply below_alloc | apply pw_below_drewN | apply below_drew1 | refine below_set ?_ GE440.out | refine below_set ?_ GE441.out) | exact HB.out))) : w.heap.size ≤ gb465)); have n8_ := Aside0.mk ((by rw [hg]; exact Nat.ne_of_lt (blk_lt (g := gb440) (o := .cells #[.slice A0_0 l0_0.length c0_0, .bool true, .int .i64 a0_2, .string a0_3] 32 (0, 0)) (by (with_reducible repeat (first | refine blk_drewN ?_ _ | refine blk_drew ?_ | refine blk_alloc ?_ _)); exact BK440.out)) : gb440 ≠ gb465)); have n9_ := Aside0.mk ((by rw [hg]; exact Nat.ne_of_gt (blk_lt (g := gb440) (o := .cells #[.slice A0_0 l0_0.length c0_0, .bool true, .int .i64 a0_2, .string a0_3] 32 (0, 0)) (by (with_reducible repeat (first | refine blk_drewN ?_ _ | refine blk_drew ?_ | refine blk_alloc ?_ _)); exact BK440.out)) : gb465 ≠ gb440)); have n10_ := Aside0.mk ((by rw [hg]; exact Nat.ne_of_lt (blk_lt (g := gb441) (o := .cells #[.slice A1_0 l1_0.length c1_0, .bool a1_1, .int .i64 a1_2, .string a1_3] 32 (0, 0)) (by (with_reducible repeat (first | refine blk_drewN ?_ _ | refine blk_drew ?_ | refine blk_alloc ?_ _)); exact BK441.out)) : gb441 ≠ gb465)); have n11_ := Aside0.mk ((by rw [hg]; exact Nat.ne_of_gt (blk_lt (g := gb441) (o := .cells #[.slice A1_0 l1_0.length c1_0, .bool a1_1, .int .i64 a1_2, .string a1_3] 32 (0, 0)) (by (with_reducible repeat (first | refine blk_drewN ?_ _ | refine blk_drew ?_ | refine blk_alloc ?_ _)); exact BK441.out)) : gb465 ≠ gb441)); clear HO457; clear HO460; clear BK440; clear BK441; clear HB; have HO457 := n0_; have HO460 := n1_; have BK440 := n2_; have BK441 := n3_; have HB := n4_; have BK465 := n5_; have GW465 := n6_; have GE465 := n7_; have NB440_465 := n8_; have NB465_440 := n9_; have NB441_465 := n10_; have NB465_441 := n11_; clear n0_ n1_ n2_ n3_ n4_ n5_ n6_ n7_ n8_ n9_ n10_ n11_; clear hb hbox hg; obtain ⟨Ao59, co59, eo59⟩ := Kd.R_slice HO460.out; subst eo59; have hnb60 := NB465_440.out; have hnc60 := NB440_465.out; have hnb61 := NB465_441.out; have hnc61 := NB441_465.out; have hcz62_0 : w58.cell? ⟨gb465, 0, none⟩ = some (.slice none 0 0) := (blk_cell BK465.out 0).trans rfl; have hcz62_1 : w58.cell? ⟨gb465, 1, none⟩ = some (.bool false) := (blk_cell BK465.out 1).trans rfl; have hcz62_2 : w58.cell? ⟨gb465, 2, none⟩ = some (.int .i64 0) := (blk_cell BK465.out 2).trans rfl; have hcz62_3 : w58.cell? ⟨gb465, 3, none⟩ = some (.string (⟨#[]⟩ : ByteArray)) := (blk_cell BK465.out 3).trans rfl; have hfz62_0 := blk_frozen BK465.out 0; have hfz62_1 := blk_frozen BK465.out 1; have hfz62_2 := blk_frozen BK465.out 2; have hfz62_3 := blk_frozen BK465.out 3; have hcz63_0 : w58.cell? ⟨gb440, 0, none⟩ = some (.slice A0_0 l0_0.length c0_0) := (blk_cell BK440.out 0).trans rfl; have hcz63_1 : w58.cell? ⟨gb440, 1, none⟩ = some (.bool true) := (blk_cell BK440.out 1).trans rfl; have hcz63_2 : w58.cell? ⟨gb440, 2, none⟩ = some (.int .i64 a0_2) := (blk_cell BK440.out 2).trans rfl; have hcz63_3 : w58.cell? ⟨gb440, 3, none⟩ = some (.string a0_3) := (blk_cell BK440.out 3).trans rfl; have hfz63_0 := blk_frozen BK440.out 0; have hfz63_1 := blk_frozen BK440.out 1; have hfz63_2 := blk_frozen BK440.out 2; have hfz63_3 := blk_frozen BK440.out 3; have hcz64_0 : w58.cell? ⟨gb441, 0, none⟩ = some (.slice A1_0 l1_0.length c1_0) := (blk_cell BK441.out 0).trans rfl; have hcz64_1 : w58.cell? ⟨gb441, 1, none⟩ = some (.bool a1_1) := (blk_cell BK441.out 1).trans rfl; have hcz64_2 : w58.cell? ⟨gb441, 2, none⟩ = some (.int .i64 a1_2) := (blk_cell BK441.out 2).trans rfl; have hcz64_3 : w58.cell? ⟨gb441, 3, none⟩ = some (.string a1_3) := (blk_cell BK441.out 3).trans rfl; have hfz64_0 := blk_frozen BK441.out 0; have hfz64_1 := blk_frozen BK441.out 1; have hfz64_2 := blk_frozen BK441.out 2; have hfz64_3 := blk_frozen BK441.out 3) | ((with_reducible refine gate_callee (f := 41) rfl ?_); refine goesL_ (some 72) rfl rfl Tryd.func41 (by kernel_rfl) rfl #[.agg #[.slice A0_0 l0_0.length c0_0, .bool true, .int .i64 a0_2, .string a0_3], .agg #[.slice A1_0 l1_0.length c1_0, .bool a1_1, .int .i64 a1_2, .string a1_3]] rfl (by (try simp only [List.map_toArray, List.map_cons, List.map_nil]); first | done | rfl | (simp only [List.length_drop, List.length_take]; rfl)) ?_; (with_reducible refine (desc_Same.calls kj39 _ _ l0_0 true a0_2 a0_3 _ _ l1_0 a1_1 a1_2 a1_3 t466 _ ?side1 ?side2 ?side3 ?side4 A46.out).mono ?_); (case side1 => exact Kd.C_below HR0_0.out (by repeat (first | (with_reducible first | exact HB.out | apply below_alloc | apply pw_below_drewN | apply below_drew1 | refine below_set ?_ GE440.out | refine below_set ?_ GE441.out | refine below_set ?_ GE465.out) | exact HB.out))); (case side2 => exact HC0_0.out); (case side3 => exact Kd.C_below HR1_0.out (by repeat (first | (with_reducible first | exact HB.out | apply below_alloc | apply pw_below_drewN | apply below_drew1 | refine below_set ?_ GE440.out | refine below_set ?_ GE441.out | refine below_set ?_ GE465.out) | exact HB.out))); (case side4 => exact HC1_0.out); rintro e w65 ⟨rfl, hb⟩; refine ⟨_, rfl, ?_⟩; have n0_ := Aside0.mk (Kd.R_below (by (with_reducible repeat (first | apply Kd.R_alloc | apply Kd.R_drewN | apply Kd.R_drew)); exact (Kd.R_mono (Kd.R_far (p := ⟨gb465, 3, none⟩) (Kd.R_far (p := ⟨gb465, 2, none⟩) (Kd.R_far (p := ⟨gb465, 1, none⟩) (Kd.R_far (p := ⟨gb465, 0, none⟩) (Kd.R_types HO457.out BK465.out (by decide)) (fun _ hk => hk.2) (.slice Ao59 t458.length co59)) (fun _ hk => hk.2) (.bool t461)) (fun _ hk => hk.2) (.int .i64 t462)) (fun _ hk => hk.2) (.string t463)) (fun _ h_ => h_.1))) hb); have n1_ := Aside0.mk (Kd.R_below (by (with_reducible repeat (first | apply Kd.R_alloc | apply Kd.R_drewN | apply Kd.R_drew)); exact (Kd.R_mono (Kd.R_far (p := ⟨gb465, 3, none⟩) (Kd.R_far (p := ⟨gb465, 2, none⟩) (Kd.R_far (p := ⟨gb465, 1, none⟩) (Kd.R_far (p := ⟨gb465, 0, none⟩) (Kd.R_types HO460.out BK465.out (by decide)) (fun _ hk => hk.2) (.slice Ao59 t458.length co59)) (fun _ hk => hk.2) (.bool t461)) (fun _ hk => hk.2) (.int .i64 t462)) (fun _ hk => hk.2) (.string t463)) (fun _ h_ => h_.1))) hb); have n2_ := Aside0.mk (blk_below (g := gb440) (o := .cells #[.slice A0_0 l0_0.length c0_0, .bool true, .int .i64 a0_2, .string a0_3] 32 (0, 0)) (by (with_reducible repeat (first | refine blk_drewN ?_ _ | refine blk_drew ?_ | refine blk_alloc ?_ _)); refine blk_far ?_ NB440_465.out _; (with_reducible repeat (first | refine blk_drewN ?_ _ | refine blk_drew ?_ | refine blk_alloc ?_ _)); refine blk_far ?_ NB440_465.out _; (with_reducible repeat (first | refine blk_drewN ?_ _ | refine blk_drew ?_ | refine blk_alloc ?_ _)); refine blk_far ?_ NB440_465.out _; (with_reducible repeat (first | refine blk_drewN ?_ _ | refine blk_drew ?_ | refine blk_alloc ?_ _)); refine blk_far ?_ NB440_465.out _; (with_reducible repeat (first | refine blk_drewN ?_ _ | refine blk_drew ?_ | refine blk_alloc ?_ _)); exact BK440.out) hb); have n3_ := Aside0.mk (blk_below (g := gb441) (o := .cells #[.slice A1_0 l1_0.length c1_0, .bool a1_1, .int .i64 a1_2, .string a1_3] 32 (0, 0)) (by (with_reducible repeat (first | refine blk_drewN ?_ _ | refine blk_drew ?_ | refine blk_alloc ?_ _)); refine blk_far ?_ NB441_465.out _; (with_reducible repeat (first | refine blk_drewN ?_ _ | refine blk_drew ?_ | refine blk_alloc ?_ _)); refine blk_far ?_ NB441_465.out _; (with_reducible repeat (first | refine blk_drewN ?_ _ | refine blk_drew ?_ | refine blk_alloc ?_ _)); refine blk_far ?_ NB441_465.out _; (with_reducible repeat (first | refine blk_drewN ?_ _ | refine blk_drew ?_ | refine blk_alloc ?_ _)); refine blk_far ?_ NB441_465.out _; (with_reducible repeat (first | refine blk_drewN ?_ _ | refine blk_drew ?_ | refine blk_alloc ?_ _)); exact BK441.out) hb); have n4_ := Aside0.mk (blk_below (g := gb465) (o := .cells #[.slice Ao59 t458.length co59, .bool t461, .int .i64 t462, .string t463] 32 (0, 0)) (by (with_reducible repeat (first | refine blk_drewN ?_ _ | refine blk_drew ?_ | refine blk_alloc ?_ _)); refine blk_put (cs := #[.slice Ao59 t458.length co59, .bool t461, .int .i64 t462, .string (⟨#[]⟩ : ByteArray)]) ?_ 3 _ rfl; (with_reducible repeat (first | refine blk_drewN ?_ _ | refine blk_drew ?_ | refine blk_alloc ?_ _)); refine blk_put (cs := #[.slice Ao59 t458.length co59, .bool t461, .int .i64 0, .string (⟨#[]⟩ : ByteArray)]) ?_ 2 _ rfl; (with_reducible repeat (first | refine blk_drewN ?_ _ | refine blk_drew ?_ | refine blk_alloc ?_ _)); refine blk_put (cs := #[.slice Ao59 t458.length co59, .bool false, .int .i64 0, .string (⟨#[]⟩ : ByteArray)]) ?_ 1 _ rfl; (with_reducible repeat (first | refine blk_drewN ?_ _ | refine blk_drew ?_ | refine blk_alloc ?_ _)); refine blk_put (cs := #[.slice none 0 0, .bool false, .int .i64 0, .string (⟨#[]⟩ : ByteArray)]) ?_ 0 _ rfl; (with_reducible repeat (first | refine blk_drewN ?_ _ | refine blk_drew ?_ | refine blk_alloc ?_ _)); exact BK465.out) hb); have n5_ := Aside0.mk (below_step (by repeat (first | (with_reducible first | exact HB.out | apply below_alloc | apply pw_below_drewN | apply below_drew1 | refine below_set ?_ GE440.out | refine below_set ?_ GE441.out | refine below_set ?_ GE465.out) | exact HB.out)) hb); clear HO457; clear HO460; clear BK440; clear BK441; clear BK465; clear HB; have HO457 := n0_; have HO460 := n1_; have BK440 := n2_; have BK441 := n3_; have BK465 := n4_; have HB := n5_; clear n0_ n1_ n2_ n3_ n4_ n5_; (try clear hb); (try clear hb2); (try clear hk); (try clear hi); have hcz66_0 : w65.cell? ⟨gb465, 0, none⟩ = some (.slice Ao59 t458.length co59) := (blk_cell BK465.out 0).trans rfl; have hcz66_1 : w65.cell? ⟨gb465, 1, none⟩ = some (.bool t461) := (blk_cell BK465.out 1).trans rfl; have hcz66_2 : w65.cell? ⟨gb465, 2, none⟩ = some (.int .i64 t462) := (blk_cell BK465.out 2).trans rfl; have hcz66_3 : w65.cell? ⟨gb465, 3, none⟩ = some (.string t463) := (blk_cell BK465.out 3).trans rfl; have hfz66_0 := blk_frozen BK465.out 0; have hfz66_1 := blk_frozen BK465.out 1; have hfz66_2 := blk_frozen BK465.out 2; have hfz66_3 := blk_frozen BK465.out 3; have hcz67_0 : w65.cell? ⟨gb440, 0, none⟩ = some (.slice A0_0 l0_0.length c0_0) := (blk_cell BK440.out 0).trans rfl; have hcz67_1 : w65.cell? ⟨gb440, 1, none⟩ = some (.bool true) := (blk_cell BK440.out 1).trans rfl; have hcz67_2 : w65.cell? ⟨gb440, 2, none⟩ = some (.int .i64 a0_2) := (blk_cell BK440.out 2).trans rfl; have hcz67_3 : w65.cell? ⟨gb440, 3, none⟩ = some (.string a0_3) := (blk_cell BK440.out 3).trans rfl; have hfz67_0 := blk_frozen BK440.out 0; have hfz67_1 := blk_frozen BK440.out 1; have hfz67_2 := blk_frozen BK440.out 2; have hfz67_3 := blk_frozen BK440.out 3) | (go_at_call 41; (with_reducible refine (desc_Same.calls kj39 _ _ t458 t461 t462 t463 _ _ l0_0 true a0_2 a0_3 t467 _ ?side1 ?side2 ?side3 ?side4 A49.out).mono ?_); (case side1 => repeat (first | exact (Kd.R_reads' HO460.out).2.2 | (with_reducible refine Kd.C_alloc ?_ _) | (with_reducible refine Kd.C_drewN ?_ _) | (with_reducible refine Kd.C_drew ?_))); (case side2 => exact (Kd.R_reads' HO460.out).2.1); (case side3 => repeat (first | exact (Kd.C_below HR0_0.out HB.out) | (with_reducible refine Kd.C_alloc ?_ _) | (with_reducible refine Kd.C_drewN ?_ _) | (with_reducible refine Kd.C_drew ?_))); (case side4 => exact HC0_0.out); rintro e w68 ⟨rfl, hb⟩; have n0_ := Aside0.mk (Kd.R_below (by (with_reducible repeat (first | apply Kd.R_alloc | apply Kd.R_drewN | apply Kd.R_drew)); exact HO457.out) hb); have n1_ := Aside0.mk (Kd.R_below (by (with_reducible repeat (first | apply Kd.R_alloc | apply Kd.R_drewN | apply Kd.R_drew)); exact HO460.out) hb); have n2_ := Aside0.mk (blk_below (g := gb440) (o := .cells #[.slice A0_0 l0_0.length c0_0, .bool true, .int .i64 a0_2, .string a0_3] 32 (0, 0)) (by (with_reducible repeat (first | refine blk_drewN ?_ _ | refine blk_drew ?_ | refine blk_alloc ?_ _)); exact BK440.out) hb); have n3_ := Aside0.mk (blk_below (g := gb441) (o := .cells #[.slice A1_0 l1_0.length c1_0, .bool a1_1, .int .i64 a1_2, .string a1_3] 32 (0, 0)) (by (with_reducible repeat (first | refine blk_drewN ?_ _ | refine blk_drew ?_ | refine blk_alloc ?_ _)); exact BK441.out) hb); have n4_ := Aside0.mk (blk_below (g := gb465) (o := .cells #[.slice Ao59 t458.length co59, .bool t461, .int .i64 t462, .string t463] 32 (0, 0)) (by (with_reducible repeat (first | refine blk_drewN ?_ _ | refine blk_drew ?_ | refine blk_alloc ?_ _)); exact BK465.out) hb); have n5_ := Aside0.mk (below_step (by repeat (first | (with_reducible first | exact HB.out | apply below_alloc | apply pw_below_drewN | apply below_drew1 | refine below_set ?_ GE440.out | refine below_set ?_ GE441.out | refine below_set ?_ GE465.out) | exact HB.out)) hb); clear HO457; clear HO460; clear BK440; clear BK441; clear BK465; clear HB; have HO457 := n0_; have HO460 := n1_; have BK440 := n2_; have BK441 := n3_; have BK465 := n4_; have HB := n5_; clear n0_ n1_ n2_ n3_ n4_ n5_; (try clear hb); (try clear hb2); (try clear hk); (try clear hi)))
                              go_ret
                              exact ⟨by first | rfl | (simp [errW_none, errW_some] <;> rfl) | (simp [*, errW_none, errW_some] <;> rfl), by repeat (first | (with_reducible first | exact HB.out | apply below_alloc | apply pw_below_drewN | apply below_drew1 | refine below_set ?_ GE440.out | refine below_set ?_ GE441.out | refine below_set ?_ GE465.out) | exact HB.out)⟩
                            · rw [if_neg c48] at H
                              have c48b0 : (t464 == 0) = false := beq_eq_false_iff_ne.mpr c48
                              have c48b1 : (t464 != 0) = true := bne_iff_ne.mpr c48
                              obtain rfl := Option.some.inj H
                              exact absurd HT.out (by decide)
                          · rw [if_neg c47] at H
                            have c47b0 : (t466 == (t445.toList == t447.toList)) = false := by simpa using c47
                            (try (have c47b1 : decide (t466 = (t445.toList == t447.toList)) = false := by simpa using c47))
                            (try (have c47b2 : (t466 == (t445.toList == t447.toList)) = false := by simpa using c47))
                            (try (have c47b3 : ¬ (t466 = (t445.toList == t447.toList)) := by simpa using c47))
                            clear c47
                            obtain rfl := Option.some.inj H
                            exact absurd HT.out (by decide)
                        · replace c44 := Bool.eq_false_iff.mpr c44
                          subst c44
                          have H1 : (if y455.length < 5864062014805 then ((desc_Make.f kj39 false (y455 ++ [(⟨a0_2, a0_3⟩ : S26)])).bind fun bt471 => ((desc_Same.f kj39 l0_0 false a0_2 a0_3 l1_0 a1_1 a1_2 a1_3).bind fun t479 => (if (t479 == (t445.toList == t447.toList)) = true then (if bt471.2.2.2.2 = 0 then ((desc_Same.f kj39 bt471.1 bt471.2.1 bt471.2.2.1 bt471.2.2.2.1 l0_0 false a0_2 a0_3).bind fun t480 => (some t480)) else (some false)) else (some false)))) else (none)) = some r := by rw [if_neg (show ¬ (false = true) by decide)] at H; exact H
                          clear H
                          have H := H1
                          clear H1
                          by_cases c69 : y455.length < 5864062014805
                          · rw [if_pos c69] at H
                            have LMc69 := Aside0.mk c69
                            clear c69
                            obtain ⟨y468, hy468⟩ : ∃ y_ : List (S26), y_ = (y455 ++ [(⟨a0_2, a0_3⟩ : S26)]) := ⟨_, rfl⟩
                            replace H : ((desc_Make.f kj39 false y468).bind fun bt471 => ((desc_Same.f kj39 l0_0 false a0_2 a0_3 l1_0 a1_1 a1_2 a1_3).bind fun t479 => (if (t479 == (t445.toList == t447.toList)) = true then (if bt471.2.2.2.2 = 0 then ((desc_Same.f kj39 bt471.1 bt471.2.1 bt471.2.2.1 bt471.2.2.2.1 l0_0 false a0_2 a0_3).bind fun t480 => (some t480)) else (some false)) else (some false)))) = some r := by first | (rw [hy468]; with_reducible exact H) | (have H2_ := (Option.bind_some _ _).symm.trans H; rw [hy468]; with_reducible exact H2_) | (have H2_ := (Option.bind_some _ _).symm.trans H; with_reducible exact H2_) | with_reducible exact H | (rw [hy468]; exact H) | exact H
                            have Ny468 := Aside0.mk hy468
                            clear hy468
                            replace H := Option.bind_eq_some_iff.mp H
                            obtain ⟨⟨t471, t474, t475, t476, t477⟩, A700, H⟩ := H
                            replace H : ((desc_Same.f kj39 l0_0 false a0_2 a0_3 l1_0 a1_1 a1_2 a1_3).bind fun t479 => (if (t479 == (t445.toList == t447.toList)) = true then (if t477 = 0 then ((desc_Same.f kj39 t471 t474 t475 t476 l0_0 false a0_2 a0_3).bind fun t480 => (some t480)) else (some false)) else (some false))) = some r := H
                            have A70 := Aside0.mk A700
                            clear A700
                            replace H := Option.bind_eq_some_iff.mp H
                            obtain ⟨t479, A710, H⟩ := H
                            replace H : (if (t479 == (t445.toList == t447.toList)) = true then (if t477 = 0 then ((desc_Same.f kj39 t471 t474 t475 t476 l0_0 false a0_2 a0_3).bind fun t480 => (some t480)) else (some false)) else (some false)) = some r := H
                            have A71 := Aside0.mk A710
                            clear A710
                            by_cases c72 : (t479 == (t445.toList == t447.toList)) = true
                            · rw [if_pos c72] at H
                              have c72b0 : (t479 == (t445.toList == t447.toList)) = true := c72
                              (try (have c72b1 : decide (t479 = (t445.toList == t447.toList)) = true := by simpa using c72))
                              (try (have c72b2 : (t479 == (t445.toList == t447.toList)) = true := by simpa using c72))
                              clear c72
                              by_cases c73 : t477 = 0
                              · rw [if_pos c73] at H
                                have c73b0 : (t477 == 0) = true := beq_iff_eq.mpr c73
                                have c73b1 : (t477 != 0) = false := bne_eq_false_iff_eq.mpr c73
                                clear c73
                                replace H := Option.bind_eq_some_iff.mp H
                                obtain ⟨t480, A740, H⟩ := H
                                replace H : (some t480) = some r := H
                                have A74 := Aside0.mk A740
                                clear A740
                                obtain rfl := Option.some.inj H
                                go_wp2_with (first | ((with_reducible refine gate_dst (N := 51) rfl ?_); refine Kd.R_lit k26 _ 26 ?hg (N := 51) ?hd (xs := ([] : List (S26))) (inner := []) (ok := fun _ => True) (okp := fun _ => True) ?hr ?hp (fun _ hk => hk) trivial (Below.refl _ _) (Nat.le_refl _) (by simp) ?_; (case hd => rfl); (case hg => rfl); (case hr => first | (go_simp; done) | (go_simp; rfl)); (case hp => exact (Reps.none _ _)); intro v453 w75 ho76 hb hg_ hnew_; clear hg_ hnew_; (first | rw [← Ny452.out] at ho76 | (simp only [Int.reduceToNat] at ho76; rw [← Ny452.out] at ho76)); have n0_ := Aside0.mk (Kd.R_lower ho76 (below_size (by repeat (first | (with_reducible first | exact HB.out | apply below_alloc | apply pw_below_drewN | apply below_drew1 | refine below_set ?_ GE440.out | refine below_set ?_ GE441.out) | exact HB.out)))); have n1_ := Aside0.mk (blk_below (g := gb440) (o := .cells #[.slice A0_0 l0_0.length c0_0, .bool false, .int .i64 a0_2, .string a0_3] 32 (0, 0)) (by (with_reducible repeat (first | refine blk_drewN ?_ _ | refine blk_drew ?_ | refine blk_alloc ?_ _)); exact BK440.out) hb); have n2_ := Aside0.mk (blk_below (g := gb441) (o := .cells #[.slice A1_0 l1_0.length c1_0, .bool a1_1, .int .i64 a1_2, .string a1_3] 32 (0, 0)) (by (with_reducible repeat (first | refine blk_drewN ?_ _ | refine blk_drew ?_ | refine blk_alloc ?_ _)); exact BK441.out) hb); have n3_ := Aside0.mk (below_step (by repeat (first | (with_reducible first | exact HB.out | apply below_alloc | apply pw_below_drewN | apply below_drew1 | refine below_set ?_ GE440.out | refine below_set ?_ GE441.out) | exact HB.out)) hb); clear BK440; clear BK441; clear HB; have HO454 := n0_; have BK440 := n1_; have BK441 := n2_; have HB := n3_; clear n0_ n1_ n2_ n3_; clear hb ho76; have hnb77 := NB440_441.out; have hnc77 := NB441_440.out; have hcz78_0 : w75.cell? ⟨gb440, 0, none⟩ = some (.slice A0_0 l0_0.length c0_0) := (blk_cell BK440.out 0).trans rfl; have hcz78_1 : w75.cell? ⟨gb440, 1, none⟩ = some (.bool false) := (blk_cell BK440.out 1).trans rfl; have hcz78_2 : w75.cell? ⟨gb440, 2, none⟩ = some (.int .i64 a0_2) := (blk_cell BK440.out 2).trans rfl; have hcz78_3 : w75.cell? ⟨gb440, 3, none⟩ = some (.string a0_3) := (blk_cell BK440.out 3).trans rfl; have hfz78_0 := blk_frozen BK440.out 0; have hfz78_1 := blk_frozen BK440.out 1; have hfz78_2 := blk_frozen BK440.out 2; have hfz78_3 := blk_frozen BK440.out 3) | ((with_reducible refine gate_builtin (b := .append) (xs := #[.tmp 51, .tmp 53]) rfl ?_); at_builtin; refine Kd.R_append_rows k26 (w0 := w) w.heap.size rfl (.tmp 51) (.tmp 53) 30 26 (.agg #[(.int .i64 0), (.string ⟨#[]⟩)]) 24 rfl Tryd.underlying30 info26 rfl (by decide) (by omega) v453 y452 l0_0 _ _ _ (fun _ => True) (fun _ => False) rfl rfl ?aO ?aR (fun _ _ h => h) (fun _ h => h.elim) ?aF ?aB ?aS ?aL ?_; (case aR => repeat (first | exact (Kd.C_below HR0_0.out HB.out) | (with_reducible refine Kd.C_alloc ?_ _) | (with_reducible refine Kd.C_drewN ?_ _) | (with_reducible refine Kd.C_drew ?_))); (case aB => exact (by repeat (first | (with_reducible first | exact HB.out | apply below_alloc | apply pw_below_drewN | apply below_drew1 | refine below_set ?_ GE440.out | refine below_set ?_ GE441.out) | exact HB.out))); (case aF => exact (fun _ _ => trivial)); (case aO => exact (by (with_reducible repeat (first | apply Kd.R_alloc | apply Kd.R_drewN | apply Kd.R_drew)); exact HO454.out)); (case aS => exact (below_size (by repeat (first | (with_reducible first | exact HB.out | apply below_alloc | apply pw_below_drewN | apply below_drew1 | refine below_set ?_ GE440.out | refine below_set ?_ GE441.out) | exact HB.out)))); (case aL => have := LMc43.out; omega); intro v456 w79 ho hb hg hat; rw [← Ny455.out] at ho; have n0_ := Aside0.mk (blk_grown (g := gb440) (o := .cells #[.slice A0_0 l0_0.length c0_0, .bool false, .int .i64 a0_2, .string a0_3] 32 (0, 0)) (by (with_reducible repeat (first | refine blk_drewN ?_ _ | refine blk_drew ?_ | refine blk_alloc ?_ _)); exact BK440.out) hg (Kd.R_ne HO454.out BK440.out (by decide))); have n1_ := Aside0.mk (blk_grown (g := gb441) (o := .cells #[.slice A1_0 l1_0.length c1_0, .bool a1_1, .int .i64 a1_2, .string a1_3] 32 (0, 0)) (by (with_reducible repeat (first | refine blk_drewN ?_ _ | refine blk_drew ?_ | refine blk_alloc ?_ _)); exact BK441.out) hg (Kd.R_ne HO454.out BK441.out (by decide))); have n2_ := Aside0.mk (hb); have n3_ := Aside0.mk (ho); clear BK440; clear BK441; clear HB; clear HO454; have BK440 := n0_; have BK441 := n1_; have HB := n2_; have HO457 := n3_; clear n0_ n1_ n2_ n3_; clear ho hb hg hat; have hcz80_0 : w79.cell? ⟨gb440, 0, none⟩ = some (.slice A0_0 l0_0.length c0_0) := (blk_cell BK440.out 0).trans rfl; have hcz80_1 : w79.cell? ⟨gb440, 1, none⟩ = some (.bool false) := (blk_cell BK440.out 1).trans rfl; have hcz80_2 : w79.cell? ⟨gb440, 2, none⟩ = some (.int .i64 a0_2) := (blk_cell BK440.out 2).trans rfl; have hcz80_3 : w79.cell? ⟨gb440, 3, none⟩ = some (.string a0_3) := (blk_cell BK440.out 3).trans rfl; have hfz80_0 := blk_frozen BK440.out 0; have hfz80_1 := blk_frozen BK440.out 1; have hfz80_2 := blk_frozen BK440.out 2; have hfz80_3 := blk_frozen BK440.out 3) | ((with_reducible refine gate_builtin (b := .append) (xs := #[.tmp 58, .tmp 61]) rfl ?_); at_builtin; refine Kd.R_append k26 (w0 := w) w.heap.size rfl (.tmp 58) (.tmp 61) 30 26 (.agg #[(.int .i64 0), (.string ⟨#[]⟩)]) 24 rfl Tryd.underlying30 info26 rfl (by decide) (by omega) v456 y455 (⟨a0_2, a0_3⟩ : S26) [.int .i64 a0_2, .string a0_3] (fun _ => True) (fun _ => False) rfl rfl ?aP (fun _ hk => hk.elim) ?aF ?aO ?aB ?aS ?aL ?_; (case aP => exact k26_mkM _ _ _ (⟨a0_2, a0_3⟩ : S26)); (case aB => exact (by repeat (first | (with_reducible first | exact HB.out | apply below_alloc | apply pw_below_drewN | apply below_drew1 | refine below_set ?_ GE440.out | refine below_set ?_ GE441.out) | exact HB.out))); (case aF => exact (fun _ _ => trivial)); (case aO => exact (by (with_reducible repeat (first | apply Kd.R_alloc | apply Kd.R_drewN | apply Kd.R_drew)); exact HO457.out)); (case aS => exact (below_size (by repeat (first | (with_reducible first | exact HB.out | apply below_alloc | apply pw_below_drewN | apply below_drew1 | refine below_set ?_ GE440.out | refine below_set ?_ GE441.out) | exact HB.out)))); (case aL => have := LMc69.out; omega); intro v469 w81 ho hb hg hat; rw [← Ny468.out] at ho; have n0_ := Aside0.mk (blk_grown (g := gb440) (o := .cells #[.slice A0_0 l0_0.length c0_0, .bool false, .int .i64 a0_2, .string a0_3] 32 (0, 0)) (by (with_reducible repeat (first | refine blk_drewN ?_ _ | refine blk_drew ?_ | refine blk_alloc ?_ _)); exact BK440.out) hg (Kd.R_ne HO457.out BK440.out (by decide))); have n1_ := Aside0.mk (blk_grown (g := gb441) (o := .cells #[.slice A1_0 l1_0.length c1_0, .bool a1_1, .int .i64 a1_2, .string a1_3] 32 (0, 0)) (by (with_reducible repeat (first | refine blk_drewN ?_ _ | refine blk_drew ?_ | refine blk_alloc ?_ _)); exact BK441.out) hg (Kd.R_ne HO457.out BK441.out (by decide))); have n2_ := Aside0.mk (hb); have n3_ := Aside0.mk (ho); clear BK440; clear BK441; clear HB; clear HO457; have BK440 := n0_; have BK441 := n1_; have HB := n2_; have HO470 := n3_; clear n0_ n1_ n2_ n3_; clear ho hb hg hat; have hcz82_0 : w81.cell? ⟨gb440, 0, none⟩ = some (.slice A0_0 l0_0.length c0_0) := (blk_cell BK440.out 0).trans rfl; have hcz82_1 : w81.cell? ⟨gb440, 1, none⟩ = some (.bool false) := (blk_cell BK440.out 1).trans rfl; have hcz82_2 : w81.cell? ⟨gb440, 2, none⟩ = some (.int .i64 a0_2) := (blk_cell BK440.out 2).trans rfl; have hcz82_3 : w81.cell? ⟨gb440, 3, none⟩ = some (.string a0_3) := (blk_cell BK440.out 3).trans rfl; have hfz82_0 := blk_frozen BK440.out 0; have hfz82_1 := blk_frozen BK440.out 1; have hfz82_2 := blk_frozen BK440.out 2; have hfz82_3 := blk_frozen BK440.out 3; obtain ⟨Ao83, co83, eo83⟩ := Kd.R_slice HO470.out; subst eo83) | ((with_reducible refine gate_callee (f := 42) rfl ?_); refine goesL_ (some 67) rfl rfl Tryd.func42 (by kernel_rfl) rfl #[.bool false, .slice Ao83 y468.length co83] rfl (by (try simp only [List.map_toArray, List.map_cons, List.map_nil]); first | done | rfl | (simp only [List.length_drop, List.length_take]; rfl)) ?_; (with_reducible refine (desc_Make.calls kj39 false (fun k_ => some k_ = (.slice Ao83 y468.length co83 : Value).ownBlock) _ _ y468 t471 t474 t475 t476 t477 _ ?side1 A70.out).mono ?_); (case side1 => exact Kd.R_V (Kd.R_tight rfl (Kd.R_types (Kd.R_types (HO470.out) BK440.out (by decide)) BK441.out (by decide)))); rintro e w84 ⟨v472, rfl, ho0, hb⟩; refine ⟨_, rfl, ?_⟩; have n0_ := Aside0.mk (Kd.R_elder' (by (with_reducible repeat (first | apply Kd.R_alloc | apply Kd.R_drewN | apply Kd.R_drew)); exact HO470.out) (Kd.R_base ho0) hb); have n1_ := Aside0.mk (Kd.R_lower (Kd.R_new' (Kd.R_mono (ok' := fun k_ => True) ho0 (fun _ hk_ => trivial)) (Kd.R_lt (by (with_reducible repeat (first | apply Kd.R_alloc | apply Kd.R_drewN | apply Kd.R_drew)); exact HO470.out))) (below_size (by repeat (first | (with_reducible first | exact HB.out | apply below_alloc | apply pw_below_drewN | apply below_drew1 | refine below_set ?_ GE440.out | refine below_set ?_ GE441.out) | exact HB.out)))); have n2_ := Aside0.mk (blk_below (g := gb440) (o := .cells #[.slice A0_0 l0_0.length c0_0, .bool false, .int .i64 a0_2, .string a0_3] 32 (0, 0)) (by (with_reducible repeat (first | refine blk_drewN ?_ _ | refine blk_drew ?_ | refine blk_alloc ?_ _)); exact BK440.out) hb); have n3_ := Aside0.mk (blk_below (g := gb441) (o := .cells #[.slice A1_0 l1_0.length c1_0, .bool a1_1, .int .i64 a1_2, .string a1_3] 32 (0, 0)) (by (with_reducible repeat (first | refine blk_drewN ?_ _ | refine blk_drew ?_ | refine blk_alloc ?_ _)); exact BK441.out) hb); have n4_ := Aside0.mk (below_step (by repeat (first | (with_reducible first | exact HB.out | apply below_alloc | apply pw_below_drewN | apply below_drew1 | refine below_set ?_ GE440.out | refine below_set ?_ GE441.out) | exact HB.out)) hb); clear HO470; clear BK440; clear BK441; clear HB; have HO470 := n0_; have HO473 := n1_; have BK440 := n2_; have BK441 := n3_; have HB := n4_; clear n0_ n1_ n2_ n3_ n4_; (try clear hb); (try clear hb2); (try clear hk); (try clear hi); (try clear ho0)) | ((with_reducible refine gate_dst (N := 10) rfl ?_); refine box_event ?hg (N := 10) ?hd (cs := #[.slice none 0 0, .bool false, .int .i64 0, .string (⟨#[]⟩ : ByteArray)]) (t := 32) ?hr ?_; (case hd => rfl); (case hg => rfl); (case hr => first | (go_simp; done) | (go_simp; rfl)); intro gb478 hg w85 hbox hb; have n0_ := Aside0.mk (Kd.R_below (by (with_reducible repeat (first | apply Kd.R_alloc | apply Kd.R_drewN | apply Kd.R_drew)); exact HO470.out) hb); have n1_ := Aside0.mk (Kd.R_below (by (with_reducible repeat (first | apply Kd.R_alloc | apply Kd.R_drewN | apply Kd.R_drew)); exact HO473.out) hb); have n2_ := Aside0.mk (blk_below (g := gb440) (o := .cells #[.slice A0_0 l0_0.length c0_0, .bool false, .int .i64 a0_2, .string a0_3] 32 (0, 0)) (by (with_reducible repeat (first | refine blk_drewN ?_ _ | refine blk_drew ?_ | refine blk_alloc ?_ _)); exact BK440.out) hb); have n3_ := Aside0.mk (blk_below (g := gb441) (o := .cells #[.slice A1_0 l1_0.length c1_0, .bool a1_1, .int .i64 a1_2, .string a1_3] 32 (0, 0)) (by (with_reducible repeat (first | refine blk_drewN ?_ _ | refine blk_drew ?_ | refine blk_alloc ?_ _)); exact BK441.out) hb); have n4_ := Aside0.mk (below_step (by repeat (first | (with_reducible first | exact HB.out | apply below_alloc | apply pw_below_drewN | apply below_drew1 | refine below_set ?_ GE440.out | refine below_set ?_ GE441.out) | exact HB.out)) hb); have n5_ := Aside0.mk (hbox); have n6_ := Aside0.mk ((by rw [hg]; exact (below_size (by repeat (first | (with_reducible first | exact HB.out | apply below_alloc | apply pw_below_drewN | apply below_drew1 | refine below_set ?_ GE440.out | refine below_set ?_ GE441.out) | exact HB.out))) : w.heap.size ≤ gb478)); have n7_ := Aside0.mk ((by rw [hg]; exact (below_size (by repeat (first | (with_reducible first | exact HB.out | apply below_alloc | apply pw_below_drewN | apply below_drew1 | refine below_set ?_ GE440.out | refine below_set ?_ GE441.out) | exact HB.out))) : w.heap.size ≤ gb478)); have n8_ := Aside0.mk ((by rw [hg]; exact Nat.ne_of_lt (blk_lt (g := gb440) (o := .cells #[.slice A0_0 l0_0.length c0_0, .bool false, .int .i64 a0_2, .string a0_3] 32 (0, 0)) (by (with_reducible repeat (first | refine blk_drewN ?_ _ | refine blk_drew ?_ | refine blk_alloc ?_ _)); exact BK440.out)) : gb440 ≠ gb478)); have n9_ := Aside0.mk ((by rw [hg]; exact Nat.ne_of_gt (blk_lt (g := gb440) (o := .cells #[.slice A0_0 l0_0.length c0_0, .bool false, .int .i64 a0_2, .string a0_3] 32 (0, 0)) (by (with_reducible repeat (first | refine blk_drewN ?_ _ | refine blk_drew ?_ | refine blk_alloc ?_ _)); exact BK440.out)) : gb478 ≠ gb440)); have n10_ := Aside0.mk ((by rw [hg]; exact Nat.ne_of_lt (blk_lt (g := gb441) (o := .cells #[.slice A1_0 l1_0.length c1_0, .bool a1_1, .int .i64 a1_2, .string a1_3] 32 (0, 0)) (by (with_reducible repeat (first | refine blk_drewN ?_ _ | refine blk_drew ?_ | refine blk_alloc ?_ _)); exact BK441.out)) : gb441 ≠ gb478)); have n11_ := Aside0.mk ((by rw [hg]; exact Nat.ne_of_gt (blk_lt (g := gb441) (o := .cells #[.slice A1_0 l1_0.length c1_0, .bool a1_1, .int .i64 a1_2, .string a1_3] 32 (0, 0)) (by (with_reducible repeat (first | refine blk_drewN ?_ _ | refine blk_drew ?_ | refine blk_alloc ?_ _)); exact BK441.out)) : gb478 ≠ gb441)); clear HO470; clear HO473; clear BK440; clear BK441; clear HB; have HO470 := n0_; have HO473 := n1_; have BK440 := n2_; have BK441 := n3_; have HB := n4_; have BK478 := n5_; have GW478 := n6_; have GE478 := n7_; have NB440_478 := n8_; have NB478_440 := n9_; have NB441_478 := n10_; have NB478_441 := n11_; clear n0_ n1_ n2_ n3_ n4_ n5_ n6_ n7_ n8_ n9_ n10_ n11_; clear hb hbox hg; obtain ⟨Ao86, co86, eo86⟩ := Kd.R_slice HO473.out; subst eo86; have hnb87 := NB478_440.out; have hnc87 := NB440_478.out; have hnb88 := NB478_441.out; have hnc88 := NB441_478.out; have hcz89_0 : w85.cell? ⟨gb478, 0, none⟩ = some (.slice none 0 0) := (blk_cell BK478.out 0).trans rfl; have hcz89_1 : w85.cell? ⟨gb478, 1, none⟩ = some (.bool false) := (blk_cell BK478.out 1).trans rfl; have hcz89_2 : w85.cell? ⟨gb478, 2, none⟩ = some (.int .i64 0) := (blk_cell BK478.out 2).trans rfl; have hcz89_3 : w85.cell? ⟨gb478, 3, none⟩ = some (.string (⟨#[]⟩ : ByteArray)) := (blk_cell BK478.out 3).trans rfl; have hfz89_0 := blk_frozen BK478.out 0; have hfz89_1 := blk_frozen BK478.out 1; have hfz89_2 := blk_frozen BK478.out 2; have hfz89_3 := blk_frozen BK478.out 3; have hcz90_0 : w85.cell? ⟨gb440, 0, none⟩ = some (.slice A0_0 l0_0.length c0_0) := (blk_cell BK440.out 0).trans rfl; have hcz90_1 : w85.cell? ⟨gb440, 1, none⟩ = some (.bool false) := (blk_cell BK440.out 1).trans rfl; have hcz90_2 : w85.cell? ⟨gb440, 2, none⟩ = some (.int .i64 a0_2) := (blk_cell BK440.out 2).trans rfl; have hcz90_3 : w85.cell? ⟨gb440, 3, none⟩ = some (.string a0_3) := (blk_cell BK440.out 3).trans rfl; have hfz90_0 := blk_frozen BK440.out 0; have hfz90_1 := blk_frozen BK440.out 1; have hfz90_2 := blk_frozen BK440.out 2; have hfz90_3 := blk_frozen BK440.out 3; have hcz91_0 : w85.cell? ⟨gb441, 0, none⟩ = some (.slice A1_0 l1_0.length c1_0) := (blk_cell BK441.out 0).trans rfl; have hcz91_1 : w85.cell? ⟨gb441, 1, none⟩ = some (.bool a1_1) := (blk_cell BK441.out 1).trans rfl; have hcz91_2 : w85.cell? ⟨gb441, 2, none⟩ = some (.int .i64 a1_2) := (blk_cell BK441.out 2).trans rfl; have hcz91_3 : w85.cell? ⟨gb441, 3, none⟩ = some (.string a1_3) := (blk_cell BK441.out 3).trans rfl; have hfz91_0 := blk_frozen BK441.out 0; have hfz91_1 := blk_frozen BK441.out 1; have hfz91_2 := blk_frozen BK441.out 2; have hfz91_3 := blk_frozen BK441.out 3) | ((with_reducible refine gate_callee (f := 41) rfl ?_); refine goesL_ (some 72) rfl rfl Tryd.func41 (by kernel_rfl) rfl #[.agg #[.slice A0_0 l0_0.length c0_0, .bool false, .int .i64 a0_2, .string a0_3], .agg #[.slice A1_0 l1_0.length c1_0, .bool a1_1, .int .i64 a1_2, .string a1_3]] rfl (by (try simp only [List.map_toArray, List.map_cons, List.map_nil]); first | done | rfl | (simp only [List.length_drop, List.length_take]; rfl)) ?_; (with_reducible refine (desc_Same.calls kj39 _ _ l0_0 false a0_2 a0_3 _ _ l1_0 a1_1 a1_2 a1_3 t479 _ ?side1 ?side2 ?side3 ?side4 A71.out).mono ?_); (case side1 => exact Kd.C_below HR0_0.out (by repeat (first | (with_reducible first | exact HB.out | apply below_alloc | apply pw_below_drewN | apply below_drew1 | refine below_set ?_ GE440.out | refine below_set ?_ GE441.out | refine below_set ?_ GE478.out) | exact HB.out))); (case side2 => exact HC0_0.out); (case side3 => exact Kd.C_below HR1_0.out (by repeat (first | (with_reducible first | exact HB.out | apply below_alloc | apply pw_below_drewN | apply below_drew1 | refine below_set ?_ GE440.out | refine below_set ?_ GE441.out | refine below_set ?_ GE478.out) | exact HB.out))); (case side4 => exact HC1_0.out); rintro e w92 ⟨rfl, hb⟩; refine ⟨_, rfl, ?_⟩; have n0_ := Aside0.mk (Kd.R_below (by (with_reducible repeat (first | apply Kd.R_alloc | apply Kd.R_drewN | apply Kd.R_drew)); exact (Kd.R_mono (Kd.R_far (p := ⟨gb478, 3, none⟩) (Kd.R_far (p := ⟨gb478, 2, none⟩) (Kd.R_far (p := ⟨gb478, 1, none⟩) (Kd.R_far (p := ⟨gb478, 0, none⟩) (Kd.R_types HO470.out BK478.out (by decide)) (fun _ hk => hk.2) (.slice Ao86 t471.length co86)) (fun _ hk => hk.2) (.bool t474)) (fun _ hk => hk.2) (.int .i64 t475)) (fun _ hk => hk.2) (.string t476)) (fun _ h_ => h_.1))) hb); have n1_ := Aside0.mk (Kd.R_below (by (with_reducible repeat (first | apply Kd.R_alloc | apply Kd.R_drewN | apply Kd.R_drew)); exact (Kd.R_mono (Kd.R_far (p := ⟨gb478, 3, none⟩) (Kd.R_far (p := ⟨gb478, 2, none⟩) (Kd.R_far (p := ⟨gb478, 1, none⟩) (Kd.R_far (p := ⟨gb478, 0, none⟩) (Kd.R_types HO473.out BK478.out (by decide)) (fun _ hk => hk.2) (.slice Ao86 t471.length co86)) (fun _ hk => hk.2) (.bool t474)) (fun _ hk => hk.2) (.int .i64 t475)) (fun _ hk => hk.2) (.string t476)) (fun _ h_ => h_.1))) hb); have n2_ := Aside0.mk (blk_below (g := gb440) (o := .cells #[.slice A0_0 l0_0.length c0_0, .bool false, .int .i64 a0_2, .string a0_3] 32 (0, 0)) (by (with_reducible repeat (first | refine blk_drewN ?_ _ | refine blk_drew ?_ | refine blk_alloc ?_ _)); refine blk_far ?_ NB440_478.out _; (with_reducible repeat (first | refine blk_drewN ?_ _ | refine blk_drew ?_ | refine blk_alloc ?_ _)); refine blk_far ?_ NB440_478.out _; (with_reducible repeat (first | refine blk_drewN ?_ _ | refine blk_drew ?_ | refine blk_alloc ?_ _)); refine blk_far ?_ NB440_478.out _; (with_reducible repeat (first | refine blk_drewN ?_ _ | refine blk_drew ?_ | refine blk_alloc ?_ _)); refine blk_far ?_ NB440_478.out _; (with_reducible repeat (first | refine blk_drewN ?_ _ | refine blk_drew ?_ | refine blk_alloc ?_ _)); exact BK440.out) hb); have n3_ := Aside0.mk (blk_below (g := gb441) (o := .cells #[.slice A1_0 l1_0.length c1_0, .bool a1_1, .int .i64 a1_2, .string a1_3] 32 (0, 0)) (by (with_reducible repeat (first | refine blk_drewN ?_ _ | refine blk_drew ?_ | refine blk_alloc ?_ _)); refine blk_far ?_ NB441_478.out _; (with_reducible repeat (first | refine blk_drewN ?_ _ | refine blk_drew ?_ | refine blk_alloc ?_ _)); refine blk_far ?_ NB441_478.out _; (with_reducible repeat (first | refine blk_drewN ?_ _ | refine blk_drew ?_ | refine blk_alloc ?_ _)); refine blk_far ?_ NB441_478.out _; (with_reducible repeat (first | refine blk_drewN ?_ _ | refine blk_drew ?_ | refine blk_alloc ?_ _)); refine blk_far ?_ NB441_478.out _; (with_reducible repeat (first | refine blk_drewN ?_ _ | refine blk_drew ?_ | refine blk_alloc ?_ _)); exact BK441.out) hb); have n4_ := Aside0.mk (blk_below (g := gb478) (o := .cells #[.slice Ao86 t471.length co86, .bool t474, .int .i64 t475, .string t476] 32 (0, 0)) (by (with_reducible repeat (first | refine blk_drewN ?_ _ | refine blk_drew ?_ | refine blk_alloc ?_ _)); refine blk_put (cs := #[.slice Ao86 t471.length co86, .bool t474, .int .i64 t475, .string (⟨#[]⟩ : ByteArray)]) ?_ 3 _ rfl; (with_reducible repeat (first | refine blk_drewN ?_ _ | refine blk_drew ?_ | refine blk_alloc ?_ _)); refine blk_put (cs := #[.slice Ao86 t471.length co86, .bool t474, .int .i64 0, .string (⟨#[]⟩ : ByteArray)]) ?_ 2 _ rfl; (with_reducible repeat (first | refine blk_drewN ?_ _ | refine blk_drew ?_ | refine blk_alloc ?_ _)); refine blk_put (cs := #[.slice Ao86 t471.length co86, .bool false, .int .i64 0, .string (⟨#[]⟩ : ByteArray)]) ?_ 1 _ rfl; (with_reducible repeat (first | refine blk_drewN ?_ _ | refine blk_drew ?_ | refine blk_alloc ?_ _)); refine blk_put (cs := #[.slice none 0 0, .bool false, .int .i64 0, .string (⟨#[]⟩ : ByteArray)]) ?_ 0 _ rfl; (with_reducible repeat (first | refine blk_drewN ?_ _ | refine blk_drew ?_ | refine blk_alloc ?_ _)); exact BK478.out) hb); have n5_ := Aside0.mk (below_step (by repeat (first | (with_reducible first | exact HB.out | apply below_alloc | apply pw_below_drewN | apply below_drew1 | refine below_set ?_ GE440.out | refine below_set ?_ GE441.out | refine below_set ?_ GE478.out) | exact HB.out)) hb); clear HO470; clear HO473; clear BK440; clear BK441; clear BK478; clear HB; have HO470 := n0_; have HO473 := n1_; have BK440 := n2_; have BK441 := n3_; have BK478 := n4_; have HB := n5_; clear n0_ n1_ n2_ n3_ n4_ n5_; (try clear hb); (try clear hb2); (try clear hk); (try clear hi); have hcz93_0 : w92.cell? ⟨gb478, 0, none⟩ = some (.slice Ao86 t471.length co86) := (blk_cell BK478.out 0).trans rfl; have hcz93_1 : w92.cell? ⟨gb478, 1, none⟩ = some (.bool t474) := (blk_cell BK478.out 1).trans rfl; have hcz93_2 : w92.cell? ⟨gb478, 2, none⟩ = some (.int .i64 t475) := (blk_cell BK478.out 2).trans rfl; have hcz93_3 : w92.cell? ⟨gb478, 3, none⟩ = some (.string t476) := (blk_cell BK478.out 3).trans rfl; have hfz93_0 := blk_frozen BK478.out 0; have hfz93_1 := blk_frozen BK478.out 1; have hfz93_2 := blk_frozen BK478.out 2; have hfz93_3 := blk_frozen BK478.out 3; have hcz94_0 : w92.cell? ⟨gb440, 0, none⟩ = some (.slice A0_0 l0_0.length c0_0) := (blk_cell BK440.out 0).trans rfl; have hcz94_1 : w92.cell? ⟨gb440, 1, none⟩ = some (.bool false) := (blk_cell BK440.out 1).trans rfl; have hcz94_2 : w92.cell? ⟨gb440, 2, none⟩ = some (.int .i64 a0_2) := (blk_cell BK440.out 2).trans rfl; have hcz94_3 : w92.cell? ⟨gb440, 3, none⟩ = some (.string a0_3) := (blk_cell BK440.out 3).trans rfl; have hfz94_0 := blk_frozen BK440.out 0; have hfz94_1 := blk_frozen BK440.out 1; have hfz94_2 := blk_frozen BK440.out 2; have hfz94_3 := blk_frozen BK440.out 3) | (go_at_call 41; (with_reducible refine (desc_Same.calls kj39 _ _ t471 t474 t475 t476 _ _ l0_0 false a0_2 a0_3 t480 _ ?side1 ?side2 ?side3 ?side4 A74.out).mono ?_); (case side1 => repeat (first | exact (Kd.R_reads' HO473.out).2.2 | (with_reducible refine Kd.C_alloc ?_ _) | (with_reducible refine Kd.C_drewN ?_ _) | (with_reducible refine Kd.C_drew ?_))); (case side2 => exact (Kd.R_reads' HO473.out).2.1); (case side3 => repeat (first | exact (Kd.C_below HR0_0.out HB.out) | (with_reducible refine Kd.C_alloc ?_ _) | (with_reducible refine Kd.C_drewN ?_ _) | (with_reducible refine Kd.C_drew ?_))); (case side4 => exact HC0_0.out); rintro e w95 ⟨rfl, hb⟩; have n0_ := Aside0.mk (Kd.R_below (by (with_reducible repeat (first | apply Kd.R_alloc | apply Kd.R_drewN | apply Kd.R_drew)); exact HO470.out) hb); have n1_ := Aside0.mk (Kd.R_below (by (with_reducible repeat (first | apply Kd.R_alloc | apply Kd.R_drewN | apply Kd.R_drew)); exact HO473.out) hb); have n2_ := Aside0.mk (blk_below (g := gb440) (o := .cells #[.slice A0_0 l0_0.length c0_0, .bool false, .int .i64 a0_2, .string a0_3] 32 (0, 0)) (by (with_reducible repeat (first | refine blk_drewN ?_ _ | refine blk_drew ?_ | refine blk_alloc ?_ _)); exact BK440.out) hb); have n3_ := Aside0.mk (blk_below (g := gb441) (o := .cells #[.slice A1_0 l1_0.length c1_0, .bool a1_1, .int .i64 a1_2, .string a1_3] 32 (0, 0)) (by (with_reducible repeat (first | refine blk_drewN ?_ _ | refine blk_drew ?_ | refine blk_alloc ?_ _)); exact BK441.out) hb); have n4_ := Aside0.mk (blk_below (g := gb478) (o := .cells #[.slice Ao86 t471.length co86, .bool t474, .int .i64 t475, .string t476] 32 (0, 0)) (by (with_reducible repeat (first | refine blk_drewN ?_ _ | refine blk_drew ?_ | refine blk_alloc ?_ _)); exact BK478.out) hb); have n5_ := Aside0.mk (below_step (by repeat (first | (with_reducible first | exact HB.out | apply below_alloc | apply pw_below_drewN | apply below_drew1 | refine below_set ?_ GE440.out | refine below_set ?_ GE441.out | refine below_set ?_ GE478.out) | exact HB.out)) hb); clear HO470; clear HO473; clear BK440; clear BK441; clear BK478; clear HB; have HO470 := n0_; have HO473 := n1_; have BK440 := n2_; have BK441 := n3_; have BK478 := n4_; have HB := n5_; clear n0_ n1_ n2_ n3_ n4_ n5_; (try clear hb); (try clear hb2); (try clear hk); (try clear hi)))
                                go_ret
                                exact ⟨by first | rfl | (simp [errW_none, errW_some] <;> rfl) | (simp [*, errW_none, errW_some] <;> rfl), by repeat (first | (with_reducible first | exact HB.out | apply below_alloc | apply pw_below_drewN | apply below_drew1 | refine below_set ?_ GE440.out | refine below_set ?_ GE441.out | refine below_set ?_ GE478.out) | exact HB.out)⟩
                              · rw [if_neg c73] at H
                                have c73b0 : (t477 == 0) = false := beq_eq_false_iff_ne.mpr c73
                                have c73b1 : (t477 != 0) = true := bne_iff_ne.mpr c73
                                obtain rfl := Option.some.inj H
                                exact absurd HT.out (by decide)
                            · rw [if_neg c72] at H
                              have c72b0 : (t479 == (t445.toList == t447.toList)) = false := by simpa using c72
                              (try (have c72b1 : decide (t479 = (t445.toList == t447.toList)) = false := by simpa using c72))
                              (try (have c72b2 : (t479 == (t445.toList == t447.toList)) = false := by simpa using c72))
                              (try (have c72b3 : ¬ (t479 = (t445.toList == t447.toList)) := by simpa using c72))
                              clear c72
                              obtain rfl := Option.some.inj H
                              exact absurd HT.out (by decide)
                          · rw [if_neg c69] at H
                            exact absurd H (by simp)
                      · rw [if_neg c43] at H
                        exact absurd H (by simp)
  · replace c4 := Bool.eq_false_iff.mpr c4
    subst c4
    have H1 : (some false) = some r := by rw [if_neg (show ¬ (false = true) by decide)] at H; exact H
    clear H
    have H := H1
    clear H1
    obtain rfl := Option.some.inj H
    exact absurd HT.out (by decide)

end Go.Proofs.YtlajkmnmooilmaaDoor.P
