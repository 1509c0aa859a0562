-- Written by my program xprint.py (a patched run of the kit's print). Lean checks it.
import Derived.Test.YtlajkmnmooilmaaDoorP0
import Derived.Test.YtlajkmnmooilmaaDoorP3
import Derived.Test.YtlajkmnmooilmaaDoorP11
import Derived.Test.YtlajkmnmooilmaaDoorP18
import Derived.Test.YtlajkmnmooilmaaDoorP20
import Derived.Test.YtlajkmnmooilmaaDoorP28
import Derived.Test.YtlajkmnmooilmaaDoorExt
import Derived.Test.YtlajkmnmooilmaaDoorExtTurn
namespace Go.Proofs.YtlajkmnmooilmaaDoor.P
open Go.RowKit Go.Proofs.YtlajkmnmooilmaaDoorW.PrintWords Go.Proofs.YtlajkmnmooilmaaDoorW.PrintLast Go.Proofs.YtlajkmnmooilmaaDoorW.PrintMore
attribute [local go_sem] max2_int min2_int max_two min_two max_three min_three max_four min_four   -- for this text's walks alone
set_option linter.unusedVariables false
set_option linter.unusedSimpArgs false

/-! ### keystonelaw2_DescTurns: function 10 -/
def keystonelaw2_DescTurns.j0 : Nat → Int → Int → Int → ByteArray → ByteArray → Bool → List (S26) → Bool → Int → ByteArray → Option (Bool)
  | 0, _, _, _, _, _, _, _, _, _, _ => none
  | k + 1, x1, x2, x3, x4, x11, x29, x551000, x551001, x551002, x551003 => if x29 = true then (some true) else ((keystonelaw2_within.f x1 (x11.size : Int)).bind fun t554 => (if 0 ≤ t554 ∧ t554 < (x11.size : Int) ∧ x11.size ≤ 9223372036854775807 then ((keystonelaw2_DescSigs.f k (turnB x11 t554 x2) x551000 x551001 x551002 x551003 x551000 x551001 x551002 x551003).bind fun t556 => (if t556 = true then ((keystonelaw2_within.f x3 (wrap64 ((x11.size : Int) + 1))).bind fun t557 => (if 0 ≤ t557 then (if t557 ≤ (x11.size : Int) then ((keystonelaw2_DescSigs.f k (x11.extract 0 (t557 : Int).toNat) x551000 x551001 x551002 x551003 x551000 x551001 x551002 x551003).bind fun t558 => (if t558 = true then (if 0 ≤ t554 then (if t554 ≤ (x11.size : Int) then (if (x11.extract 0 (t554 : Int).toNat).size + x4.size ≤ 9223372036854775807 then (if ((x11.extract 0 (t554 : Int).toNat) ++ x4).size + (x11.extract (t554 : Int).toNat x11.size).size ≤ 9223372036854775807 then ((keystonelaw2_DescSigs.f k (((x11.extract 0 (t554 : Int).toNat) ++ x4) ++ (x11.extract (t554 : Int).toNat x11.size)) x551000 x551001 x551002 x551003 x551000 x551001 x551002 x551003).bind fun t559 => (if t559 = true then ((keystonelaw2_DescTypes.f k (turnB x11 t554 x2) 0 (⟨#[]⟩ : ByteArray)).bind fun t560 => (some t560)) else (some false))) else (none)) else (none)) else (none)) else (none)) else (some false))) else (none)) else (none))) else (some false))) else (none)))
def keystonelaw2_DescTurns.f (k : Nat) (l0_0 : List (S26)) (a0_1 : Bool) (a0_2 : Int) (a0_3 : ByteArray) (a1 : Int) (a2 : Int) (a3 : Int) (a4 : ByteArray) : Option (Bool) := (keystonelaw2_known.f k).bind fun t551 => (if t551 = true then ((keystoneref2_SigText.f k l0_0 a0_1 a0_2 a0_3).bind fun bt552 => (if bt552.2 = 0 then (keystonelaw2_DescTurns.j0 k a1 a2 a3 a4 bt552.1 (decide ((a4.size : Int) > 100)) l0_0 a0_1 a0_2 a0_3) else (keystonelaw2_DescTurns.j0 k a1 a2 a3 a4 bt552.1 true l0_0 a0_1 a0_2 a0_3))) else (some false))
theorem keystonelaw2_DescTurns.mono_l : ∀ k, (∀ y0 y1 y2 y3 y4 y5 y6 y7 y8 y9, LeO (keystonelaw2_DescTurns.j0 k y0 y1 y2 y3 y4 y5 y6 y7 y8 y9) (keystonelaw2_DescTurns.j0 (k + 1) y0 y1 y2 y3 y4 y5 y6 y7 y8 y9))
  | 0 => fun _ _ _ _ _ _ _ _ _ _ r h => by simp [keystonelaw2_DescTurns.j0] at h
  | k + 1 => by
    have ih0 := keystonelaw2_DescTurns.mono_l k
    · intro y0 y1 y2 y3 y4 y5 y6 y7 y8 y9
      unfold keystonelaw2_DescTurns.j0
      repeat' first
      | (with_reducible exact ih0 _ _ _ _ _ _ _ _ _ _)
      | (with_reducible exact keystonelaw2_DescSigs.mono _ _ _ _ _ _ _ _ _ _)
      | (with_reducible exact keystonelaw2_DescTypes.mono _ _ _ _)
      | (with_reducible exact keystonelaw2_known.mono _)
      | (with_reducible exact keystoneref2_SigText.mono _ _ _ _ _)
      | (with_reducible exact LeO.refl _)
      | (with_reducible exact LeO.none _)
      | (with_reducible refine LeO.ite ?_ ?_)
      | (with_reducible refine LeO.bind ?_ (fun _ => ?_))
      | exact ih0 _ _ _ _ _ _ _ _ _ _
      | exact keystonelaw2_DescSigs.mono _ _ _ _ _ _ _ _ _ _
      | exact keystonelaw2_DescTypes.mono _ _ _ _
      | exact keystonelaw2_known.mono _
      | exact keystoneref2_SigText.mono _ _ _ _ _
      | exact LeO.none _
      | refine LeO.ite ?_ ?_
      | refine LeO.bind ?_ (fun _ => ?_)
theorem keystonelaw2_DescTurns.mono : ∀ a0 a1 a2 a3 a4 a5 a6 a7 k, LeO (keystonelaw2_DescTurns.f k a0 a1 a2 a3 a4 a5 a6 a7) (keystonelaw2_DescTurns.f (k + 1) a0 a1 a2 a3 a4 a5 a6 a7) := by
  intro a0 a1 a2 a3 a4 a5 a6 a7 k
  have ih0 := keystonelaw2_DescTurns.mono_l k
  unfold keystonelaw2_DescTurns.f
  repeat' first
      | (with_reducible exact ih0 _ _ _ _ _ _ _ _ _ _)
      | (with_reducible exact keystonelaw2_DescSigs.mono _ _ _ _ _ _ _ _ _ _)
      | (with_reducible exact keystonelaw2_DescTypes.mono _ _ _ _)
      | (with_reducible exact keystonelaw2_known.mono _)
      | (with_reducible exact keystoneref2_SigText.mono _ _ _ _ _)
      | (with_reducible exact LeO.refl _)
      | (with_reducible exact LeO.none _)
      | (with_reducible refine LeO.ite ?_ ?_)
      | (with_reducible refine LeO.bind ?_ (fun _ => ?_))
      | exact ih0 _ _ _ _ _ _ _ _ _ _
      | exact keystonelaw2_DescSigs.mono _ _ _ _ _ _ _ _ _ _
      | exact keystonelaw2_DescTypes.mono _ _ _ _
      | exact keystonelaw2_known.mono _
      | exact keystoneref2_SigText.mono _ _ _ _ _
      | exact LeO.none _
      | refine LeO.ite ?_ ?_
      | refine LeO.bind ?_ (fun _ => ?_)
def keystonelaw2_DescTurns.T10 : Bool × List (List Nat × List Nat) := (true, [([], []), ([0], [0]), ([], []), ([], []), ([1, 2, 3], [1, 2, 3]), ([4, 4], [4]), ([5], [5]), ([5], [5]), ([5], [5]), ([8, 5], [5, 8]), ([9, 5], [5, 9]), ([7, 10, 5, 5], [5, 7, 10]), ([6, 11, 5], [5, 6, 11]), ([5], [5]), ([5], [5]), ([12, 13, 14, 11, 5], [5, 12, 13, 14]), ([5, 15], [5, 15]), ([16, 15], [16]), ([17], [17]), ([17], [17]), ([18, 19, 17], [17, 18, 19]), ([17], [17]), ([20, 21, 17], [17, 20, 21]), ([17], [17]), ([17], [17]), ([23, 24, 17], [17, 23, 24]), ([22, 25, 17], [17, 22, 25]), ([17], [17]), ([17], [17]), ([26, 27, 28, 17, 17], [17, 26, 27, 28]), ([17, 29], [17, 29]), ([30, 29], [30]), ([31], [31]), ([32, 31], [31, 32]), ([31], [31]), ([33, 34, 31, 31], [31, 33, 34]), ([31, 35], [31, 35]), ([36, 35, 0, 1, 2, 3, 4, 5, 6, 7, 8, 9, 10, 11, 12, 13, 14, 15, 16, 17, 18, 19, 20, 21, 22, 23, 24, 25, 26, 27, 28, 29, 30, 31, 32, 33, 34, 35, 36], [36])])
def keystonelaw2_DescTurns.B10 : List Nat := [0, 1, 0, 0, 15, 31, 63, 63, 63, 319, 831, 1983, 4095, 63, 63, 32767, 65535, 131071, 262143, 262143, 1048575, 262143, 4194303, 262143, 262143, 25427967, 67108863, 262143, 262143, 536870911, 1073741823, 2147483647, 4294967295, 8589934591, 4294967295, 34359738367, 68719476735, 137438953471]
theorem keystonelaw2_DescTurns.tab10 : rtab .any (opsOf Tryd.f10 10) = keystonelaw2_DescTurns.T10 := by kernel_rfl
theorem keystonelaw2_DescTurns.bits10 : waitsOk keystonelaw2_DescTurns.T10.2 keystonelaw2_DescTurns.B10 = true := by kernel_rfl
set_option maxHeartbeats 8000000 in
set_option maxRecDepth 100000 in
theorem keystonelaw2_DescTurns.calls (k : Nat) (A0_0 : Option Addr) (c0_0 : Nat) (l0_0 : List (S26)) (a0_1 : Bool) (a0_2 : Int) (a0_3 : ByteArray) (a1 : Int) (a2 : Int) (a3 : Int) (a4 : ByteArray) (r : Bool) (w : World) (hr0_0 : Kd.C k26 w A0_0 l0_0.length l0_0) (hc0_0 : l0_0.length ≤ c0_0) (hT : r = true) (h : keystonelaw2_DescTurns.f k l0_0 a0_1 a0_2 a0_3 a1 a2 a3 a4 = some r) :
    Calls Tryd.prog 10 #[.agg #[.slice A0_0 l0_0.length c0_0, .bool a0_1, .int .i64 a0_2, .string a0_3], .int .i64 a1, .int .u8 a2, .int .i64 a3, .string a4] w fun e w' => e = .returned (.bool r) ∧ Below w.heap.size w w' := by
  have hu32 := Tryd.underlying32
  have hu26 := Tryd.underlying26
  have HR0_0 := Aside0.mk hr0_0
  have HC0_0 := Aside0.mk hc0_0
  clear hr0_0 hc0_0
  have HB := Aside0.mk (Below.refl w.heap.size w)
  have H : ((keystonelaw2_known.f k).bind fun t551 => (if t551 = true then ((keystoneref2_SigText.f k l0_0 a0_1 a0_2 a0_3).bind fun bt552 => (if bt552.2 = 0 then (keystonelaw2_DescTurns.j0 k a1 a2 a3 a4 bt552.1 (decide ((a4.size : Int) > 100)) l0_0 a0_1 a0_2 a0_3) else (keystonelaw2_DescTurns.j0 k a1 a2 a3 a4 bt552.1 true l0_0 a0_1 a0_2 a0_3))) else (some false))) = some r := h
  clear h
  have HT := Aside0.mk hT
  clear hT
  replace H := Option.bind_eq_some_iff.mp H
  obtain ⟨t551, A60, H⟩ := H
  replace H : (if t551 = true then ((keystoneref2_SigText.f k l0_0 a0_1 a0_2 a0_3).bind fun bt552 => (if bt552.2 = 0 then (keystonelaw2_DescTurns.j0 k a1 a2 a3 a4 bt552.1 (decide ((a4.size : Int) > 100)) l0_0 a0_1 a0_2 a0_3) else (keystonelaw2_DescTurns.j0 k a1 a2 a3 a4 bt552.1 true l0_0 a0_1 a0_2 a0_3))) else (some false)) = some r := H
  have A6 := Aside0.mk A60
  clear A60
  by_cases c7 : t551 = true
  · subst c7
    have H1 : ((keystoneref2_SigText.f k l0_0 a0_1 a0_2 a0_3).bind fun bt552 => (if bt552.2 = 0 then (keystonelaw2_DescTurns.j0 k a1 a2 a3 a4 bt552.1 (decide ((a4.size : Int) > 100)) l0_0 a0_1 a0_2 a0_3) else (keystonelaw2_DescTurns.j0 k a1 a2 a3 a4 bt552.1 true l0_0 a0_1 a0_2 a0_3))) = some r := by rw [if_pos rfl] at H; exact H
    clear H
    have H := H1
    clear H1
    replace H := Option.bind_eq_some_iff.mp H
    obtain ⟨⟨t552, t553⟩, A80, H⟩ := H
    replace H : (if t553 = 0 then (keystonelaw2_DescTurns.j0 k a1 a2 a3 a4 t552 (decide ((a4.size : Int) > 100)) l0_0 a0_1 a0_2 a0_3) else (keystonelaw2_DescTurns.j0 k a1 a2 a3 a4 t552 true l0_0 a0_1 a0_2 a0_3)) = some r := H
    have A8 := Aside0.mk A80
    clear A80
    have HC9 := Aside0.mk H
    clear H
    go_enter Tryd.func10, Tryd.ntmps10
    go_upto_region 4 with (first | ((with_reducible refine gate_dst (N := 5) rfl ?_); (try (refine gate_guard (by rfl) ?_; dsimp only)); refine box_event ?hg (N := 5) ?hd (cs := #[.slice A0_0 l0_0.length c0_0, .bool a0_1, .int .i64 a0_2, .string a0_3]) (t := 32) ?hr ?_; (case hd => rfl); (case hg => rfl); (case hr => first | (go_simp; done) | (go_simp; rfl)); intro gb550 hg w10 hbox hb; have n0_ := Aside0.mk (below_step (by repeat (first | (with_reducible first | exact HB.out | apply below_alloc | apply pw_below_drewN | apply below_drew1) | exact HB.out)) hb); have n1_ := Aside0.mk (hbox); have n2_ := Aside0.mk ((by rw [hg]; exact (below_size (by repeat (first | (with_reducible first | exact HB.out | apply below_alloc | apply pw_below_drewN | apply below_drew1) | exact HB.out))) : w.heap.size ≤ gb550)); have n3_ := Aside0.mk ((by rw [hg]; exact (below_size (by repeat (first | (with_reducible first | exact HB.out | apply below_alloc | apply pw_below_drewN | apply below_drew1) | exact HB.out))) : w.heap.size ≤ gb550)); clear HB; have HB := n0_; have BK550 := n1_; have GW550 := n2_; have GE550 := n3_; clear n0_ n1_ n2_ n3_; clear hb hbox hg) | ((with_reducible refine gate_callee (f := 15) rfl ?_); refine goesL_ (some 16) rfl rfl Tryd.func15 (by kernel_rfl) rfl #[] rfl (by (try simp only [List.map_toArray, List.map_cons, List.map_nil]); first | done | rfl | (simp only [List.length_drop, List.length_take]; rfl)) ?_; (with_reducible refine (keystonelaw2_known.calls k  true _ A6.out).mono ?_); rintro e w11 ⟨rfl, hb⟩; refine ⟨_, rfl, ?_⟩; have n0_ := Aside0.mk (blk_below (g := gb550) (o := .cells #[.slice A0_0 l0_0.length c0_0, .bool a0_1, .int .i64 a0_2, .string a0_3] 32 (0, 0)) (by (with_reducible repeat (first | refine blk_drewN ?_ _ | refine blk_drew ?_ | refine blk_alloc ?_ _)); exact BK550.out) hb); have n1_ := Aside0.mk (below_step (by repeat (first | (with_reducible first | exact HB.out | apply below_alloc | apply pw_below_drewN | apply below_drew1 | refine below_set ?_ GE550.out) | exact HB.out)) hb); clear BK550; clear HB; have BK550 := n0_; have HB := n1_; clear n0_ n1_; (try clear hb); (try clear hb2); (try clear hk); (try clear hi); have hcz12_0 : w11.cell? ⟨gb550, 0, none⟩ = some (.slice A0_0 l0_0.length c0_0) := (blk_cell BK550.out 0).trans rfl; have hcz12_1 : w11.cell? ⟨gb550, 1, none⟩ = some (.bool a0_1) := (blk_cell BK550.out 1).trans rfl; have hcz12_2 : w11.cell? ⟨gb550, 2, none⟩ = some (.int .i64 a0_2) := (blk_cell BK550.out 2).trans rfl; have hcz12_3 : w11.cell? ⟨gb550, 3, none⟩ = some (.string a0_3) := (blk_cell BK550.out 3).trans rfl; have hfz12_0 := blk_frozen BK550.out 0; have hfz12_1 := blk_frozen BK550.out 1; have hfz12_2 := blk_frozen BK550.out 2; have hfz12_3 := blk_frozen BK550.out 3) | ((with_reducible refine gate_callee (f := 39) rfl ?_); refine goesL_ (some 20) rfl rfl Tryd.func39 (by kernel_rfl) rfl #[.agg #[.slice A0_0 l0_0.length c0_0, .bool a0_1, .int .i64 a0_2, .string a0_3]] rfl (by (try simp only [List.map_toArray, List.map_cons, List.map_nil]); first | done | rfl | (simp only [List.length_drop, List.length_take]; rfl)) ?_; (with_reducible refine (keystoneref2_SigText.calls k _ _ l0_0 a0_1 a0_2 a0_3 t552 t553 _ ?side1 ?side2 A8.out).mono ?_); (case side1 => repeat (first | exact (Kd.C_below HR0_0.out HB.out) | (with_reducible refine Kd.C_alloc ?_ _) | (with_reducible refine Kd.C_drewN ?_ _) | (with_reducible refine Kd.C_drew ?_))); (case side2 => exact HC0_0.out); rintro e w13 ⟨rfl, hb⟩; refine ⟨_, rfl, ?_⟩; have n0_ := Aside0.mk (blk_below (g := gb550) (o := .cells #[.slice A0_0 l0_0.length c0_0, .bool a0_1, .int .i64 a0_2, .string a0_3] 32 (0, 0)) (by (with_reducible repeat (first | refine blk_drewN ?_ _ | refine blk_drew ?_ | refine blk_alloc ?_ _)); exact BK550.out) hb); have n1_ := Aside0.mk (below_step (by repeat (first | (with_reducible first | exact HB.out | apply below_alloc | apply pw_below_drewN | apply below_drew1 | refine below_set ?_ GE550.out) | exact HB.out)) hb); clear BK550; clear HB; have BK550 := n0_; have HB := n1_; clear n0_ n1_; (try clear hb); (try clear hb2); (try clear hk); (try clear hi)))
    (try simp only [Act.put, List.setIfInBounds_toArray, List.set_cons_zero, List.set_cons_succ])
    go_cut [29] (fun v29 wc => ∃ (kq : Nat) (x29_8 : Bool), v29 = .bool x29_8 ∧ Aside0 (keystonelaw2_DescTurns.j0 kq a1 a2 a3 a4 t552 x29_8 l0_0 a0_1 a0_2 a0_3 = some r) ∧ Aside0 (kq ≤ k) ∧ Aside0 (wc.heap[gb550]? = some (.cells #[(.slice A0_0 l0_0.length c0_0), .bool a0_1, .int .i64 a0_2, .string a0_3] 32 (0, 0))) ∧ Aside0 (Below w.heap.size w wc))
    case first =>
      have H := HC9.out
      clear HC9
      by_cases c14 : t553 = 0
      · rw [if_pos c14] at H
        have c14b0 : (t553 == 0) = true := beq_iff_eq.mpr c14
        have c14b1 : (t553 != 0) = false := bne_eq_false_iff_eq.mpr c14
        clear c14
        (first | rw [c14b0] | (simp only [i64_w, i32_w]; rw [c14b0]) | skip)
        have H' := Aside0.mk H
        clear H
        go_wp2
        go_meet
        case rel => exact ⟨_, (decide ((a4.size : Int) > 100)), (by first | rfl | (simp; done) | (simp [*]; done) | (simp [wrap64]; done)), H', ⟨by first | omega | exact Nat.le_refl _⟩, ⟨by (with_reducible repeat (first | refine blk_drewN ?_ _ | refine blk_drew ?_ | refine blk_alloc ?_ _)); exact BK550.out⟩, ⟨by repeat (first | (with_reducible first | exact HB.out | apply below_alloc | apply pw_below_drewN | apply below_drew1 | refine below_set ?_ GE550.out) | exact HB.out)⟩⟩
      · rw [if_neg c14] at H
        have c14b0 : (t553 == 0) = false := beq_eq_false_iff_ne.mpr c14
        have c14b1 : (t553 != 0) = true := bne_iff_ne.mpr c14
        (first | rw [c14b0] | (simp only [i64_w, i32_w]; rw [c14b0]) | skip)
        have H' := Aside0.mk H
        clear H
        go_wp2
        go_meet
        case rel => exact ⟨_, (true), (by first | rfl | (simp; done) | (simp [*]; done) | (simp [wrap64]; done)), H', ⟨by first | omega | exact Nat.le_refl _⟩, ⟨by (with_reducible repeat (first | refine blk_drewN ?_ _ | refine blk_drew ?_ | refine blk_alloc ?_ _)); exact BK550.out⟩, ⟨by repeat (first | (with_reducible first | exact HB.out | apply below_alloc | apply pw_below_drewN | apply below_drew1 | refine below_set ?_ GE550.out) | exact HB.out)⟩⟩
    case rest =>
      clear HC9
      try clear c1
      try clear p2
      try clear c3
      try clear c7
      try clear c10
      try clear c14
      try clear c14b0
      try clear c14b1
      try clear hcz12_0
      try clear hcz12_1
      try clear hcz12_2
      try clear hcz12_3
      try clear hfz12_0
      try clear hfz12_1
      try clear hfz12_2
      try clear hfz12_3
      obtain ⟨kq, x29_8, rfl, HA, HJ8, BK550, HB⟩ := hcut
      cases kq with
      | zero => exact absurd HA.out (by simp [keystonelaw2_DescTurns.j0])
      | succ kj8 =>
        have H := HA.out
        clear HA
        simp only [keystonelaw2_DescTurns.j0] at H
        by_cases c15 : x29_8 = true
        · subst c15
          have H1 : (some true) = some r := by rw [if_pos rfl] at H; exact H
          clear H
          have H := H1
          clear H1
          obtain rfl := Option.some.inj H
          go_wp2
          go_ret
          exact ⟨by first | rfl | (simp [errW_none, errW_some] <;> rfl) | (simp [*, errW_none, errW_some] <;> rfl), by repeat (first | (with_reducible first | exact HB.out | apply below_alloc | apply pw_below_drewN | apply below_drew1 | refine below_set ?_ GE550.out) | exact HB.out)⟩
        · replace c15 := Bool.eq_false_iff.mpr c15
          subst c15
          have H1 : ((keystonelaw2_within.f a1 (t552.size : Int)).bind fun t554 => (if 0 ≤ t554 ∧ t554 < (t552.size : Int) ∧ t552.size ≤ 9223372036854775807 then ((keystonelaw2_DescSigs.f kj8 (turnB t552 t554 a2) l0_0 a0_1 a0_2 a0_3 l0_0 a0_1 a0_2 a0_3).bind fun t556 => (if t556 = true then ((keystonelaw2_within.f a3 (wrap64 ((t552.size : Int) + 1))).bind fun t557 => (if 0 ≤ t557 then (if t557 ≤ (t552.size : Int) then ((keystonelaw2_DescSigs.f kj8 (t552.extract 0 (t557 : Int).toNat) l0_0 a0_1 a0_2 a0_3 l0_0 a0_1 a0_2 a0_3).bind fun t558 => (if t558 = true then (if 0 ≤ t554 then (if t554 ≤ (t552.size : Int) then (if (t552.extract 0 (t554 : Int).toNat).size + a4.size ≤ 9223372036854775807 then (if ((t552.extract 0 (t554 : Int).toNat) ++ a4).size + (t552.extract (t554 : Int).toNat t552.size).size ≤ 9223372036854775807 then ((keystonelaw2_DescSigs.f kj8 (((t552.extract 0 (t554 : Int).toNat) ++ a4) ++ (t552.extract (t554 : Int).toNat t552.size)) l0_0 a0_1 a0_2 a0_3 l0_0 a0_1 a0_2 a0_3).bind fun t559 => (if t559 = true then ((keystonelaw2_DescTypes.f kj8 (turnB t552 t554 a2) 0 (⟨#[]⟩ : ByteArray)).bind fun t560 => (some t560)) else (some false))) else (none)) else (none)) else (none)) else (none)) else (some false))) else (none)) else (none))) else (some false))) else (none))) = some r := by rw [if_neg (show ¬ (false = true) by decide)] at H; exact H
          clear H
          have H := H1
          clear H1
          replace H := Option.bind_eq_some_iff.mp H
          obtain ⟨t554, A160, H⟩ := H
          replace H : (if 0 ≤ t554 ∧ t554 < (t552.size : Int) ∧ t552.size ≤ 9223372036854775807 then ((keystonelaw2_DescSigs.f kj8 (turnB t552 t554 a2) l0_0 a0_1 a0_2 a0_3 l0_0 a0_1 a0_2 a0_3).bind fun t556 => (if t556 = true then ((keystonelaw2_within.f a3 (wrap64 ((t552.size : Int) + 1))).bind fun t557 => (if 0 ≤ t557 then (if t557 ≤ (t552.size : Int) then ((keystonelaw2_DescSigs.f kj8 (t552.extract 0 (t557 : Int).toNat) l0_0 a0_1 a0_2 a0_3 l0_0 a0_1 a0_2 a0_3).bind fun t558 => (if t558 = true then (if 0 ≤ t554 then (if t554 ≤ (t552.size : Int) then (if (t552.extract 0 (t554 : Int).toNat).size + a4.size ≤ 9223372036854775807 then (if ((t552.extract 0 (t554 : Int).toNat) ++ a4).size + (t552.extract (t554 : Int).toNat t552.size).size ≤ 9223372036854775807 then ((keystonelaw2_DescSigs.f kj8 (((t552.extract 0 (t554 : Int).toNat) ++ a4) ++ (t552.extract (t554 : Int).toNat t552.size)) l0_0 a0_1 a0_2 a0_3 l0_0 a0_1 a0_2 a0_3).bind fun t559 => (if t559 = true then ((keystonelaw2_DescTypes.f kj8 (turnB t552 t554 a2) 0 (⟨#[]⟩ : ByteArray)).bind fun t560 => (some t560)) else (some false))) else (none)) else (none)) else (none)) else (none)) else (some false))) else (none)) else (none))) else (some false))) else (none)) = some r := H
          have A16 := Aside0.mk A160
          clear A160
          by_cases c17 : 0 ≤ t554 ∧ t554 < (t552.size : Int) ∧ t552.size ≤ 9223372036854775807
          · rw [if_pos c17] at H
            have HIX := Aside0.mk (And.intro c17.1 c17.2.1)
            have HSZ := Aside0.mk c17.2.2
            have c17b0 := eq_true c17.1
            have c17b1 := decide_eq_true c17.1
            have c17b2 := eq_true c17.2.1
            have c17b3 := decide_eq_true c17.2.1
            clear c17
            replace H := Option.bind_eq_some_iff.mp H
            obtain ⟨t556, A180, H⟩ := H
            replace H : (if t556 = true then ((keystonelaw2_within.f a3 (wrap64 ((t552.size : Int) + 1))).bind fun t557 => (if 0 ≤ t557 then (if t557 ≤ (t552.size : Int) then ((keystonelaw2_DescSigs.f kj8 (t552.extract 0 (t557 : Int).toNat) l0_0 a0_1 a0_2 a0_3 l0_0 a0_1 a0_2 a0_3).bind fun t558 => (if t558 = true then (if 0 ≤ t554 then (if t554 ≤ (t552.size : Int) then (if (t552.extract 0 (t554 : Int).toNat).size + a4.size ≤ 9223372036854775807 then (if ((t552.extract 0 (t554 : Int).toNat) ++ a4).size + (t552.extract (t554 : Int).toNat t552.size).size ≤ 9223372036854775807 then ((keystonelaw2_DescSigs.f kj8 (((t552.extract 0 (t554 : Int).toNat) ++ a4) ++ (t552.extract (t554 : Int).toNat t552.size)) l0_0 a0_1 a0_2 a0_3 l0_0 a0_1 a0_2 a0_3).bind fun t559 => (if t559 = true then ((keystonelaw2_DescTypes.f kj8 (turnB t552 t554 a2) 0 (⟨#[]⟩ : ByteArray)).bind fun t560 => (some t560)) else (some false))) else (none)) else (none)) else (none)) else (none)) else (some false))) else (none)) else (none))) else (some false)) = some r := H
            have A18 := Aside0.mk A180
            clear A180
            by_cases c19 : t556 = true
            · subst c19
              have H1 : ((keystonelaw2_within.f a3 (wrap64 ((t552.size : Int) + 1))).bind fun t557 => (if 0 ≤ t557 then (if t557 ≤ (t552.size : Int) then ((keystonelaw2_DescSigs.f kj8 (t552.extract 0 (t557 : Int).toNat) l0_0 a0_1 a0_2 a0_3 l0_0 a0_1 a0_2 a0_3).bind fun t558 => (if t558 = true then (if 0 ≤ t554 then (if t554 ≤ (t552.size : Int) then (if (t552.extract 0 (t554 : Int).toNat).size + a4.size ≤ 9223372036854775807 then (if ((t552.extract 0 (t554 : Int).toNat) ++ a4).size + (t552.extract (t554 : Int).toNat t552.size).size ≤ 9223372036854775807 then ((keystonelaw2_DescSigs.f kj8 (((t552.extract 0 (t554 : Int).toNat) ++ a4) ++ (t552.extract (t554 : Int).toNat t552.size)) l0_0 a0_1 a0_2 a0_3 l0_0 a0_1 a0_2 a0_3).bind fun t559 => (if t559 = true then ((keystonelaw2_DescTypes.f kj8 (turnB t552 t554 a2) 0 (⟨#[]⟩ : ByteArray)).bind fun t560 => (some t560)) else (some false))) else (none)) else (none)) else (none)) else (none)) else (some false))) else (none)) else (none))) = some r := by rw [if_pos rfl] at H; exact H
              clear H
              have H := H1
              clear H1
              replace H := Option.bind_eq_some_iff.mp H
              obtain ⟨t557, A200, H⟩ := H
              replace H : (if 0 ≤ t557 then (if t557 ≤ (t552.size : Int) then ((keystonelaw2_DescSigs.f kj8 (t552.extract 0 (t557 : Int).toNat) l0_0 a0_1 a0_2 a0_3 l0_0 a0_1 a0_2 a0_3).bind fun t558 => (if t558 = true then (if 0 ≤ t554 then (if t554 ≤ (t552.size : Int) then (if (t552.extract 0 (t554 : Int).toNat).size + a4.size ≤ 9223372036854775807 then (if ((t552.extract 0 (t554 : Int).toNat) ++ a4).size + (t552.extract (t554 : Int).toNat t552.size).size ≤ 9223372036854775807 then ((keystonelaw2_DescSigs.f kj8 (((t552.extract 0 (t554 : Int).toNat) ++ a4) ++ (t552.extract (t554 : Int).toNat t552.size)) l0_0 a0_1 a0_2 a0_3 l0_0 a0_1 a0_2 a0_3).bind fun t559 => (if t559 = true then ((keystonelaw2_DescTypes.f kj8 (turnB t552 t554 a2) 0 (⟨#[]⟩ : ByteArray)).bind fun t560 => (some t560)) else (some false))) else (none)) else (none)) else (none)) else (none)) else (some false))) else (none)) else (none)) = some r := H
              have A20 := Aside0.mk A200
              clear A200
              by_cases c21 : 0 ≤ t557
              · rw [if_pos c21] at H
                have c21b0 := eq_true c21
                have c21b1 : decide (0 ≤ t557) = true := decide_eq_true c21
                clear c21
                by_cases c22 : t557 ≤ (t552.size : Int)
                · rw [if_pos c22] at H
                  have c22b0 := eq_true c22
                  have c22b1 : decide (t557 ≤ (t552.size : Int)) = true := decide_eq_true c22
                  clear c22
                  replace H := Option.bind_eq_some_iff.mp H
                  obtain ⟨t558, A230, H⟩ := H
                  replace H : (if t558 = true then (if 0 ≤ t554 then (if t554 ≤ (t552.size : Int) then (if (t552.extract 0 (t554 : Int).toNat).size + a4.size ≤ 9223372036854775807 then (if ((t552.extract 0 (t554 : Int).toNat) ++ a4).size + (t552.extract (t554 : Int).toNat t552.size).size ≤ 9223372036854775807 then ((keystonelaw2_DescSigs.f kj8 (((t552.extract 0 (t554 : Int).toNat) ++ a4) ++ (t552.extract (t554 : Int).toNat t552.size)) l0_0 a0_1 a0_2 a0_3 l0_0 a0_1 a0_2 a0_3).bind fun t559 => (if t559 = true then ((keystonelaw2_DescTypes.f kj8 (turnB t552 t554 a2) 0 (⟨#[]⟩ : ByteArray)).bind fun t560 => (some t560)) else (some false))) else (none)) else (none)) else (none)) else (none)) else (some false)) = some r := H
                  have A23 := Aside0.mk A230
                  clear A230
                  by_cases c24 : t558 = true
                  · subst c24
                    have H1 : (if 0 ≤ t554 then (if t554 ≤ (t552.size : Int) then (if (t552.extract 0 (t554 : Int).toNat).size + a4.size ≤ 9223372036854775807 then (if ((t552.extract 0 (t554 : Int).toNat) ++ a4).size + (t552.extract (t554 : Int).toNat t552.size).size ≤ 9223372036854775807 then ((keystonelaw2_DescSigs.f kj8 (((t552.extract 0 (t554 : Int).toNat) ++ a4) ++ (t552.extract (t554 : Int).toNat t552.size)) l0_0 a0_1 a0_2 a0_3 l0_0 a0_1 a0_2 a0_3).bind fun t559 => (if t559 = true then ((keystonelaw2_DescTypes.f kj8 (turnB t552 t554 a2) 0 (⟨#[]⟩ : ByteArray)).bind fun t560 => (some t560)) else (some false))) else (none)) else (none)) else (none)) else (none)) = some r := by rw [if_pos rfl] at H; exact H
                    clear H
                    have H := H1
                    clear H1
                    by_cases c25 : 0 ≤ t554
                    · rw [if_pos c25] at H
                      have c25b0 := eq_true c25
                      have c25b1 : decide (0 ≤ t554) = true := decide_eq_true c25
                      clear c25
                      by_cases c26 : t554 ≤ (t552.size : Int)
                      · rw [if_pos c26] at H
                        have c26b0 := eq_true c26
                        have c26b1 : decide (t554 ≤ (t552.size : Int)) = true := decide_eq_true c26
                        clear c26
                        by_cases c27 : (t552.extract 0 (t554 : Int).toNat).size + a4.size ≤ 9223372036854775807
                        · rw [if_pos c27] at H
                          have c27b0 := eq_true c27
                          have c27b1 : decide ((t552.extract 0 (t554 : Int).toNat).size + a4.size ≤ 9223372036854775807) = true := decide_eq_true c27
                          (try (have c27e := c27; rw [ByteArray.size_extract, Nat.min_self] at c27e; have c27b0e := eq_true c27e; clear c27e))
                          try have c27b2 : (9223372036854775807 < (t552.extract 0 (t554 : Int).toNat).size + a4.size) = False := eq_false (Nat.not_lt.2 c27)
                          have c27b4 : (9223372036854775807 < t554.toNat + a4.size) = False := eq_false (Nat.not_lt.2 (by have h1 := c27; have h2 := HIX.out; rw [ByteArray.size_extract] at h1; omega))
                          have c28b0 := eq_true (of_decide_eq_true (by first | (with_reducible assumption) | assumption) : 0 ≤ t554)
                          have c29b0 := eq_true (of_decide_eq_true (by first | (with_reducible assumption) | assumption) : t554 ≤ (t552.size : Int))
                          by_cases c30 : ((t552.extract 0 (t554 : Int).toNat) ++ a4).size + (t552.extract (t554 : Int).toNat t552.size).size ≤ 9223372036854775807
                          · rw [if_pos c30] at H
                            have c30b0 := eq_true c30
                            have c30b1 : decide (((t552.extract 0 (t554 : Int).toNat) ++ a4).size + (t552.extract (t554 : Int).toNat t552.size).size ≤ 9223372036854775807) = true := decide_eq_true c30
                            (try (have c30e := c30; rw [ByteArray.size_extract, Nat.min_self] at c30e; have c30b0e := eq_true c30e; clear c30e))
                            try have c30b2 : (9223372036854775807 < ((t552.extract 0 (t554 : Int).toNat) ++ a4).size + (t552.extract (t554 : Int).toNat t552.size).size) = False := eq_false (Nat.not_lt.2 c30)
                            have c30b4 : (9223372036854775807 < t554.toNat + a4.size + (t552.size - t554.toNat)) = False := eq_false (Nat.not_lt.2 (by have h1 := c30; have h2 := HIX.out; rw [ByteArray.size_append, ByteArray.size_extract, ByteArray.size_extract] at h1; omega))
                            (try (have c30b3 := c30b2; simp only [ByteArray.size_append] at c30b3))
                            replace H := Option.bind_eq_some_iff.mp H
                            obtain ⟨t559, A310, H⟩ := H
                            replace H : (if t559 = true then ((keystonelaw2_DescTypes.f kj8 (turnB t552 t554 a2) 0 (⟨#[]⟩ : ByteArray)).bind fun t560 => (some t560)) else (some false)) = some r := H
                            have A31 := Aside0.mk A310
                            clear A310
                            by_cases c32 : t559 = true
                            · subst c32
                              have H1 : ((keystonelaw2_DescTypes.f kj8 (turnB t552 t554 a2) 0 (⟨#[]⟩ : ByteArray)).bind fun t560 => (some t560)) = some r := by rw [if_pos rfl] at H; exact H
                              clear H
                              have H := H1
                              clear H1
                              replace H := Option.bind_eq_some_iff.mp H
                              obtain ⟨t560, A330, H⟩ := H
                              replace H : (some t560) = some r := H
                              have A33 := Aside0.mk A330
                              clear A330
                              obtain rfl := Option.some.inj H
                              go_upto_region 9 with (first | ((with_reducible refine gate_callee (f := 16) rfl ?_); refine goesL_ (some 33) rfl rfl Tryd.func16 (by kernel_rfl) rfl #[.int .i64 a1, .int .i64 (t552.size : Int)] rfl (by (try simp only [List.map_toArray, List.map_cons, List.map_nil]); first | done | rfl | (simp only [List.length_drop, List.length_take]; rfl)) ?_; (with_reducible refine (keystonelaw2_within.calls a1 (t552.size : Int) t554 _ A16.out).mono ?_); rintro e w' ⟨rfl, ⟨nd, rfl⟩⟩; refine ⟨_, rfl, ?_⟩; (try (rw [drewN_self wc]; generalize hq_ : World.drewN wc _ = wc; have n0_ : Aside0 (wc.heap[gb550]? = some (.cells #[.slice A0_0 l0_0.length c0_0, .bool a0_1, .int .i64 a0_2, .string a0_3] 32 (0, 0))) := ⟨by rw [← hq_]; exact (by (with_reducible repeat (first | refine blk_drewN ?_ _ | refine blk_drew ?_ | refine blk_alloc ?_ _)); exact BK550.out)⟩; have n1_ : Aside0 (Below w.heap.size w wc) := ⟨by rw [← hq_]; exact (by repeat (first | (with_reducible first | exact HB.out | apply below_alloc | apply pw_below_drewN | apply below_drew1 | refine below_set ?_ GE550.out) | exact HB.out))⟩; clear BK550 HB hq_; have BK550 := n0_; have HB := n1_; clear n0_ n1_))) | ((with_reducible refine gate_dst (N := 35) rfl ?_); refine turn_event (s := t552) ?hg (N := 35) ?hd _ rfl rfl ?_; (case hd => rfl); (case hg => rfl); intro gc hg capC w0c cellsC hbc htc hb; have n0_ := Aside0.mk (blk_below (g := gb550) (o := .cells #[.slice A0_0 l0_0.length c0_0, .bool a0_1, .int .i64 a0_2, .string a0_3] 32 (0, 0)) (by (with_reducible repeat (first | refine blk_drewN ?_ _ | refine blk_drew ?_ | refine blk_alloc ?_ _)); exact BK550.out) hb); have n1_ := Aside0.mk (below_step (by repeat (first | (with_reducible first | exact HB.out | apply below_alloc | apply pw_below_drewN | apply below_drew1 | refine below_set ?_ GE550.out) | exact HB.out)) hb); have n3_ := Aside0.mk ((by rw [hg]; exact (below_size (by repeat (first | (with_reducible first | exact HB.out | apply below_alloc | apply pw_below_drewN | apply below_drew1 | refine below_set ?_ GE550.out) | exact HB.out)))) : w.heap.size ≤ gc); have n4_ := Aside0.mk ((by rw [hg]; exact Nat.ne_of_lt (blk_lt (g := gb550) (o := .cells #[.slice A0_0 l0_0.length c0_0, .bool a0_1, .int .i64 a0_2, .string a0_3] 32 (0, 0)) (by (with_reducible repeat (first | refine blk_drewN ?_ _ | refine blk_drew ?_ | refine blk_alloc ?_ _)); exact BK550.out))) : gb550 ≠ gc); clear BK550; clear HB; have BK550 := n0_; have HB := n1_; have GEC := n3_; have NBC := n4_; have BKC := Aside0.mk hbc; have HTC := Aside0.mk htc; clear n0_ n1_ n3_ n4_; clear hb hbc htc hg; have hccC := turn_cell BKC.out HTC.out HIX.out.1 HIX.out.2; have hfrC := turn_frozen BKC.out HTC.out HIX.out.1 HIX.out.2))
                              have n0_ := Aside0.mk (blk_far (g := gb550) BK550.out (p := ⟨gc, t554.toNat, none⟩) NBC.out (.int .u8 (turnY t552 t554 a2)))
                              have n1_ := Aside0.mk (below_set (j := t554.toNat) (v := .int .u8 (turnY t552 t554 a2)) HB.out GEC.out)
                              obtain ⟨oC, hoC, hrC⟩ := turn_put BKC.out HTC.out a2 HIX.out.1 HIX.out.2 HSZ.out
                              have n2_ := Aside0.mk hoC
                              have HRD := Aside0.mk hrC
                              clear hoC hrC hccC hfrC BK550 HB BKC HTC
                              have BK550 := n0_
                              have HB := n1_
                              have BKC := n2_
                              clear n0_ n1_ n2_
                              rw [show ((bytesN t552)[t554.toNat]?.getD 0 + a2) % 256 = turnY t552 t554 a2 from rfl]
                              generalize (w0c.setCell ⟨gc, t554.toNat, none⟩ (.int .u8 (turnY t552 t554 a2))) = w1c at BK550 HB BKC ⊢
                              try go_wp2_with (first | ((with_reducible refine gate_dst (N := 15) rfl ?_); (try (refine gate_guard (by rfl) ?_; dsimp only)); refine box_event ?hg (N := 15) ?hd (cs := #[.int .i64 0, .string (⟨#[]⟩ : ByteArray)]) (t := 26) ?hr ?_; (case hd => rfl); (case hg => rfl); (case hr => first | (go_simp; done) | (go_simp; rfl)); intro gb555 hg w34 hbox hb; have n0_ := Aside0.mk (blk_below (g := gb550) (o := .cells #[.slice A0_0 l0_0.length c0_0, .bool a0_1, .int .i64 a0_2, .string a0_3] 32 (0, 0)) (by (with_reducible repeat (first | refine blk_drewN ?_ _ | refine blk_drew ?_ | refine blk_alloc ?_ _)); exact BK550.out) hb); have n1_ := Aside0.mk (below_step (by repeat (first | (with_reducible first | exact HB.out | apply below_alloc | apply pw_below_drewN | apply below_drew1 | refine below_set ?_ GE550.out) | exact HB.out)) hb); have n2_ := Aside0.mk (hbox); have n3_ := Aside0.mk ((by rw [hg]; exact (below_size (by repeat (first | (with_reducible first | exact HB.out | apply below_alloc | apply pw_below_drewN | apply below_drew1 | refine below_set ?_ GE550.out) | exact HB.out))) : w.heap.size ≤ gb555)); have n4_ := Aside0.mk ((by rw [hg]; exact (below_size (by repeat (first | (with_reducible first | exact HB.out | apply below_alloc | apply pw_below_drewN | apply below_drew1 | refine below_set ?_ GE550.out) | exact HB.out))) : w.heap.size ≤ gb555)); have n5_ := Aside0.mk ((by rw [hg]; exact Nat.ne_of_lt (blk_lt (g := gb550) (o := .cells #[.slice A0_0 l0_0.length c0_0, .bool a0_1, .int .i64 a0_2, .string a0_3] 32 (0, 0)) (by (with_reducible repeat (first | refine blk_drewN ?_ _ | refine blk_drew ?_ | refine blk_alloc ?_ _)); exact BK550.out)) : gb550 ≠ gb555)); have n6_ := Aside0.mk ((by rw [hg]; exact Nat.ne_of_gt (blk_lt (g := gb550) (o := .cells #[.slice A0_0 l0_0.length c0_0, .bool a0_1, .int .i64 a0_2, .string a0_3] 32 (0, 0)) (by (with_reducible repeat (first | refine blk_drewN ?_ _ | refine blk_drew ?_ | refine blk_alloc ?_ _)); exact BK550.out)) : gb555 ≠ gb550)); have nC_ := Aside0.mk (blk_below BKC.out hb); have nD_ := Aside0.mk ((by rw [hg]; exact Nat.ne_of_gt (blk_lt BKC.out)) : gb555 ≠ gc); clear BKC; have BKC := nC_; have NDC := nD_; clear nC_ nD_; clear BK550; clear HB; have BK550 := n0_; have HB := n1_; have BK555 := n2_; have GW555 := n3_; have GE555 := n4_; have NB550_555 := n5_; have NB555_550 := n6_; clear n0_ n1_ n2_ n3_ n4_ n5_ n6_; clear hb hbox hg; have hnb35 := NB555_550.out; have hnc35 := NB550_555.out; have hcz36_0 : w34.cell? ⟨gb555, 0, none⟩ = some (.int .i64 0) := (blk_cell BK555.out 0).trans rfl; have hcz36_1 : w34.cell? ⟨gb555, 1, none⟩ = some (.string (⟨#[]⟩ : ByteArray)) := (blk_cell BK555.out 1).trans rfl; have hfz36_0 := blk_frozen BK555.out 0; have hfz36_1 := blk_frozen BK555.out 1))
                              have n0_ : Aside0 (((w34.setCell ⟨gb555, 0, none⟩ (.int .i64 0)).setCell ⟨gb555, 1, none⟩ (.string (⟨#[]⟩ : ByteArray))).heap[gb550]? = some (.cells #[.slice A0_0 l0_0.length c0_0, .bool a0_1, .int .i64 a0_2, .string a0_3] 32 (0, 0))) := ⟨by (with_reducible repeat (first | refine blk_drewN ?_ _ | refine blk_drew ?_ | refine blk_alloc ?_ _)); refine blk_far ?_ NB550_555.out _; (with_reducible repeat (first | refine blk_drewN ?_ _ | refine blk_drew ?_ | refine blk_alloc ?_ _)); refine blk_far ?_ NB550_555.out _; (with_reducible repeat (first | refine blk_drewN ?_ _ | refine blk_drew ?_ | refine blk_alloc ?_ _)); exact BK550.out⟩
                              have n1_ : Aside0 (((w34.setCell ⟨gb555, 0, none⟩ (.int .i64 0)).setCell ⟨gb555, 1, none⟩ (.string (⟨#[]⟩ : ByteArray))).heap[gb555]? = some (.cells #[.int .i64 0, .string (⟨#[]⟩ : ByteArray)] 26 (0, 0))) := ⟨by (with_reducible repeat (first | refine blk_drewN ?_ _ | refine blk_drew ?_ | refine blk_alloc ?_ _)); refine blk_put (cs := #[.int .i64 0, .string (⟨#[]⟩ : ByteArray)]) ?_ 1 _ rfl; (with_reducible repeat (first | refine blk_drewN ?_ _ | refine blk_drew ?_ | refine blk_alloc ?_ _)); refine blk_put (cs := #[.int .i64 0, .string (⟨#[]⟩ : ByteArray)]) ?_ 0 _ rfl; (with_reducible repeat (first | refine blk_drewN ?_ _ | refine blk_drew ?_ | refine blk_alloc ?_ _)); exact BK555.out⟩
                              have n2_ : Aside0 (Below w.heap.size w ((w34.setCell ⟨gb555, 0, none⟩ (.int .i64 0)).setCell ⟨gb555, 1, none⟩ (.string (⟨#[]⟩ : ByteArray)))) := ⟨by repeat (first | (with_reducible first | exact HB.out | apply below_alloc | apply pw_below_drewN | apply below_drew1 | refine below_set ?_ GE550.out | refine below_set ?_ GE555.out) | exact HB.out)⟩
                              have nC_ : Aside0 (((w34.setCell ⟨gb555, 0, none⟩ (.int .i64 0)).setCell ⟨gb555, 1, none⟩ (.string (⟨#[]⟩ : ByteArray))).heap[gc]? = some oC) := ⟨obj_far (p := ⟨gb555, 1, none⟩) (obj_far (p := ⟨gb555, 0, none⟩) BKC.out NDC.out _) NDC.out _⟩
                              clear BKC
                              (try clear BK550)
                              (try clear BK555)
                              (try clear HB)
                              generalize ((w34.setCell ⟨gb555, 0, none⟩ (.int .i64 0)).setCell ⟨gb555, 1, none⟩ (.string (⟨#[]⟩ : ByteArray))) = w37 at n0_ n1_ n2_ nC_ ⊢
                              have BKC := nC_
                              clear nC_
                              have BK550 := n0_
                              have BK555 := n1_
                              have HB := n2_
                              clear n0_ n1_ n2_
                              have nC_ := Aside0.mk (blk_drew BKC.out)
                              clear BKC
                              have BKC := nC_
                              clear nC_
                              have n0_ := Aside0.mk (blk_drew BK550.out)
                              have n1_ := Aside0.mk (blk_drew BK555.out)
                              have n2_ := Aside0.mk (below_drew1 HB.out)
                              clear BK550
                              clear BK555
                              clear HB
                              have BK550 := n0_
                              have BK555 := n1_
                              have HB := n2_
                              clear n0_ n1_ n2_
                              refine start_ (n := 38) (S := fun w' => w'.cell? ⟨gb550, 0, none⟩ = some (.slice A0_0 l0_0.length c0_0) ∧ w'.cell? ⟨gb550, 1, none⟩ = some (.bool a0_1) ∧ w'.cell? ⟨gb550, 2, none⟩ = some (.int .i64 a0_2) ∧ w'.cell? ⟨gb550, 3, none⟩ = some (.string a0_3) ∧ w'.cell? ⟨gb555, 0, none⟩ = some (.int .i64 0) ∧ w'.cell? ⟨gb555, 1, none⟩ = some (.string (⟨#[]⟩ : ByteArray)) ∧ ReadsInt w' .u8 (some ⟨gc, 0, none⟩) t552.size (turnL t552 t554 a2)) (ds := []) #[false, false, false, false, false, false, false, false, false, false, false, false, false, false, false, false, false, false, false, false, false, false, false, false, false, false, false, false, false, false, false, false, false, false, false, false, false, false] (by kernel_rfl) rfl rfl ⟨(blk_cell BK550.out 0).trans rfl, (blk_cell BK550.out 1).trans rfl, (blk_cell BK550.out 2).trans rfl, (blk_cell BK550.out 3).trans rfl, (blk_cell BK555.out 0).trans rfl, (blk_cell BK555.out 1).trans rfl, HRD.out _ BKC.out⟩ (fun hHeld => ?_); refine with_tabW keystonelaw2_DescTurns.tab10 keystonelaw2_DescTurns.bits10 (fun HT_ HW_ => ?_)
                              generalize w37.drew = w38 at BK550 BK555 HB BKC hHeld ⊢
                              refine pure_ (i := 0) (N := some 46) (v := ?_) (a' := ?_) #[true, false, false, false, false, false, false, false, false, false, false, false, false, false, false, false, false, false, false, false, false, false, false, false, false, false, false, false, false, false, false, false, false, false, false, false, false, false] rfl rfl (any_of HT_.out (by kernel_rfl)) (fun _ _ _ h => h) (Or.inl ⟨by rfl, ?_⟩) ?_ ?_
                              rotate_left
                              · intro w'
                                go_simp
                                with_reducible rfl
                              rotate_left
                              · simp only [Act.put, List.setIfInBounds_toArray, List.set_cons_zero, List.set_cons_succ, i64_w, i32_w]
                                rfl
                              refine take_ (i := 1) (N := some 47) (v := ?_) (a' := ?_) #[true, true, false, false, false, false, false, false, false, false, false, false, false, false, false, false, false, false, false, false, false, false, false, false, false, false, false, false, false, false, false, false, false, false, false, false, false, false] rfl rfl (take_ofW HT_.out HW_.out (by kernel_rfl)) (fun _ _ _ h => h) (Or.inl ⟨by rfl, ?_⟩) hHeld ?_ ?_
                              rotate_left
                              · rintro w' ⟨s0, s1, s2, s3, s4, s5, s6⟩
                                have hcv := turn_string (c := capC) (s := t552) (i := t554) (x := a2) s6
                                go_simp
                                with_reducible rfl
                              rotate_left
                              · simp only [Act.put, List.setIfInBounds_toArray, List.set_cons_zero, List.set_cons_succ, i64_w, i32_w]
                                rfl
                              refine take_ (i := 2) (N := some 48) (v := ?_) (a' := ?_) #[true, true, true, false, false, false, false, false, false, false, false, false, false, false, false, false, false, false, false, false, false, false, false, false, false, false, false, false, false, false, false, false, false, false, false, false, false, false] rfl rfl (take_ofW HT_.out HW_.out (by kernel_rfl)) (fun _ _ _ h => h) (Or.inl ⟨by rfl, ?_⟩) hHeld ?_ ?_
                              rotate_left
                              · rintro w' ⟨s0, s1, s2, s3, s4, s5, s6⟩
                                go_simp
                                with_reducible rfl
                              rotate_left
                              · simp only [Act.put, List.setIfInBounds_toArray, List.set_cons_zero, List.set_cons_succ, i64_w, i32_w]
                                rfl
                              refine take_ (i := 3) (N := some 49) (v := ?_) (a' := ?_) #[true, true, true, true, false, false, false, false, false, false, false, false, false, false, false, false, false, false, false, false, false, false, false, false, false, false, false, false, false, false, false, false, false, false, false, false, false, false] rfl rfl (take_ofW HT_.out HW_.out (by kernel_rfl)) (fun _ _ _ h => h) (Or.inl ⟨by rfl, ?_⟩) hHeld ?_ ?_
                              rotate_left
                              · rintro w' ⟨s0, s1, s2, s3, s4, s5, s6⟩
                                go_simp
                                with_reducible rfl
                              rotate_left
                              · simp only [Act.put, List.setIfInBounds_toArray, List.set_cons_zero, List.set_cons_succ, i64_w, i32_w]
                                rfl
                              refine one_ (i := 4) (N := some 50) #[true, true, true, true, true, false, false, false, false, false, false, false, false, false, false, false, false, false, false, false, false, false, false, false, false, false, false, false, false, false, false, false, false, false, false, false, false, false] rfl rfl (one_of HT_.out (by kernel_rfl)) (by decide) (fun K hK => ?_)
                              refine goes_ Tryd.func9 (by kernel_rfl) rfl #[.string (turnB t552 t554 a2), .agg #[.slice A0_0 l0_0.length c0_0, .bool a0_1, .int .i64 a0_2, .string a0_3], .agg #[.slice A0_0 l0_0.length c0_0, .bool a0_1, .int .i64 a0_2, .string a0_3]] (by rfl) rfl rfl (by (try simp only [List.map_toArray, List.map_cons, List.map_nil]); first | done | rfl | (simp only [List.length_drop, List.length_take]; rfl)) ?_
                              with_reducible refine (keystonelaw2_DescSigs.calls kj8 (turnB t552 t554 a2) _ _ l0_0 a0_1 a0_2 a0_3 _ _ l0_0 a0_1 a0_2 a0_3 true _ ?side1 ?side2 ?side3 ?side4 (by first | exact rfl | exact HT.out) A18.out).mono ?_
                              (case side1 => repeat (first | exact (Kd.C_below HR0_0.out HB.out) | (with_reducible refine Kd.C_alloc ?_ _) | (with_reducible refine Kd.C_drewN ?_ _) | (with_reducible refine Kd.C_drew ?_)))
                              (case side2 => exact HC0_0.out)
                              (case side3 => repeat (first | exact (Kd.C_below HR0_0.out HB.out) | (with_reducible refine Kd.C_alloc ?_ _) | (with_reducible refine Kd.C_drewN ?_ _) | (with_reducible refine Kd.C_drew ?_)))
                              (case side4 => exact HC0_0.out)
                              rintro e w39 ⟨rfl, hb⟩
                              refine ⟨_, rfl, ?_⟩
                              have n0_ := Aside0.mk (blk_below (g := gb550) (o := .cells #[.slice A0_0 l0_0.length c0_0, .bool a0_1, .int .i64 a0_2, .string a0_3] 32 (0, 0)) (by (with_reducible repeat (first | refine blk_drewN ?_ _ | refine blk_drew ?_ | refine blk_alloc ?_ _)); exact BK550.out) hb)
                              have n1_ := Aside0.mk (blk_below (g := gb555) (o := .cells #[.int .i64 0, .string (⟨#[]⟩ : ByteArray)] 26 (0, 0)) (by (with_reducible repeat (first | refine blk_drewN ?_ _ | refine blk_drew ?_ | refine blk_alloc ?_ _)); exact BK555.out) hb)
                              have n2_ := Aside0.mk (below_step (by repeat (first | (with_reducible first | exact HB.out | apply below_alloc | apply pw_below_drewN | apply below_drew1 | refine below_set ?_ GE550.out | refine below_set ?_ GE555.out) | exact HB.out)) hb)
                              clear BK550
                              clear BK555
                              clear HB
                              have BK550 := n0_
                              have BK555 := n1_
                              have HB := n2_
                              clear n0_ n1_ n2_
                              have nC_ := Aside0.mk (blk_below (g := gc) (o := oC) (by (with_reducible repeat (first | refine blk_drewN ?_ _ | refine blk_drew ?_ | refine blk_alloc ?_ _)); exact BKC.out) hb)
                              clear BKC
                              have BKC := nC_
                              clear nC_
                              (try clear hb)
                              (try clear hb2)
                              (try clear hk)
                              (try clear hi)
                              refine hK.out _ _ ⟨(blk_cell BK550.out 0).trans rfl, (blk_cell BK550.out 1).trans rfl, (blk_cell BK550.out 2).trans rfl, (blk_cell BK550.out 3).trans rfl, (blk_cell BK555.out 0).trans rfl, (blk_cell BK555.out 1).trans rfl, HRD.out _ BKC.out⟩ (fun hHeld => ?_)
                              clear hK K
                              refine norm_ (a' := ?_) ?_ ?_
                              rotate_left
                              · show Act.put _ (some 50) _ = _
                                simp only [Act.put, List.setIfInBounds_toArray, List.set_cons_zero, List.set_cons_succ, i64_w, i32_w]
                                rfl
                              refine pure_ (i := 5) (N := some 51) (v := ?_) (a' := ?_) #[true, true, true, true, true, true, false, false, false, false, false, false, false, false, false, false, false, false, false, false, false, false, false, false, false, false, false, false, false, false, false, false, false, false, false, false, false, false] rfl rfl (any_of HT_.out (by kernel_rfl)) (fun _ _ _ h => h) (Or.inl ⟨by rfl, ?_⟩) ?_ ?_
                              rotate_left
                              · intro w'
                                go_simp
                                with_reducible rfl
                              rotate_left
                              · simp only [Act.put, List.setIfInBounds_toArray, List.set_cons_zero, List.set_cons_succ, i64_w, i32_w]
                                rfl
                              refine pure_ (i := 6) (N := some 52) (v := ?_) (a' := ?_) #[true, true, true, true, true, true, true, false, false, false, false, false, false, false, false, false, false, false, false, false, false, false, false, false, false, false, false, false, false, false, false, false, false, false, false, false, false, false] rfl rfl (any_of HT_.out (by kernel_rfl)) (fun _ _ _ h => h) (Or.inl ⟨by rfl, ?_⟩) ?_ ?_
                              rotate_left
                              · intro w'
                                go_simp
                                with_reducible rfl
                              rotate_left
                              · simp only [Act.put, List.setIfInBounds_toArray, List.set_cons_zero, List.set_cons_succ, i64_w, i32_w]
                                rfl
                              refine pure_ (i := 7) (N := some 53) (v := ?_) (a' := ?_) #[true, true, true, true, true, true, true, true, false, false, false, false, false, false, false, false, false, false, false, false, false, false, false, false, false, false, false, false, false, false, false, false, false, false, false, false, false, false] rfl rfl (any_of HT_.out (by kernel_rfl)) (fun _ _ _ h => h) (Or.inl ⟨by rfl, ?_⟩) ?_ ?_
                              rotate_left
                              · intro w'
                                go_simp
                                with_reducible rfl
                              rotate_left
                              · simp only [Act.put, List.setIfInBounds_toArray, List.set_cons_zero, List.set_cons_succ, i64_w, i32_w]
                                rfl
                              refine pure_ (i := 8) (N := some 54) (v := ?_) (a' := ?_) #[true, true, true, true, true, true, true, true, true, false, false, false, false, false, false, false, false, false, false, false, false, false, false, false, false, false, false, false, false, false, false, false, false, false, false, false, false, false] rfl rfl (any_of HT_.out (by kernel_rfl)) (fun _ _ _ h => h) (Or.inl ⟨by rfl, ?_⟩) ?_ ?_
                              rotate_left
                              · intro w'
                                go_simp
                                with_reducible rfl
                              rotate_left
                              · simp only [Act.put, List.setIfInBounds_toArray, List.set_cons_zero, List.set_cons_succ, i64_w, i32_w]
                                rfl
                              refine pure_ (i := 9) (N := some 55) (v := ?_) (a' := ?_) #[true, true, true, true, true, true, true, true, true, true, false, false, false, false, false, false, false, false, false, false, false, false, false, false, false, false, false, false, false, false, false, false, false, false, false, false, false, false] rfl rfl (any_of HT_.out (by kernel_rfl)) (fun _ _ _ h => h) (Or.inl ⟨by rfl, ?_⟩) ?_ ?_
                              rotate_left
                              · intro w'
                                go_simp
                                with_reducible rfl
                              rotate_left
                              · simp only [Act.put, List.setIfInBounds_toArray, List.set_cons_zero, List.set_cons_succ, i64_w, i32_w]
                                rfl
                              refine pure_ (i := 10) (N := some 56) (v := ?_) (a' := ?_) #[true, true, true, true, true, true, true, true, true, true, true, false, false, false, false, false, false, false, false, false, false, false, false, false, false, false, false, false, false, false, false, false, false, false, false, false, false, false] rfl rfl (any_of HT_.out (by kernel_rfl)) (fun _ _ _ h => h) (Or.inl ⟨by rfl, ?_⟩) ?_ ?_
                              rotate_left
                              · intro w'
                                go_simp
                                with_reducible rfl
                              rotate_left
                              · simp only [Act.put, List.setIfInBounds_toArray, List.set_cons_zero, List.set_cons_succ, i64_w, i32_w]
                                rfl
                              refine take_ (i := 13) (N := some 59) (v := ?_) (a' := ?_) #[true, true, true, true, true, true, true, true, true, true, true, false, false, true, false, false, false, false, false, false, false, false, false, false, false, false, false, false, false, false, false, false, false, false, false, false, false, false] rfl rfl (take_ofW HT_.out HW_.out (by kernel_rfl)) (fun _ _ _ h => h) (Or.inl ⟨by rfl, ?_⟩) hHeld ?_ ?_
                              rotate_left
                              · rintro w' ⟨s0, s1, s2, s3, s4, s5, s6⟩
                                go_simp
                                with_reducible rfl
                              rotate_left
                              · simp only [Act.put, List.setIfInBounds_toArray, List.set_cons_zero, List.set_cons_succ, i64_w, i32_w]
                                rfl
                              refine take_ (i := 14) (N := some 60) (v := ?_) (a' := ?_) #[true, true, true, true, true, true, true, true, true, true, true, false, false, true, true, false, false, false, false, false, false, false, false, false, false, false, false, false, false, false, false, false, false, false, false, false, false, false] rfl rfl (take_ofW HT_.out HW_.out (by kernel_rfl)) (fun _ _ _ h => h) (Or.inl ⟨by rfl, ?_⟩) hHeld ?_ ?_
                              rotate_left
                              · rintro w' ⟨s0, s1, s2, s3, s4, s5, s6⟩
                                go_simp
                                with_reducible rfl
                              rotate_left
                              · simp only [Act.put, List.setIfInBounds_toArray, List.set_cons_zero, List.set_cons_succ, i64_w, i32_w]
                                rfl
                              refine one_ (i := 11) (N := some 57) #[true, true, true, true, true, true, true, true, true, true, true, true, false, true, true, false, false, false, false, false, false, false, false, false, false, false, false, false, false, false, false, false, false, false, false, false, false, false] rfl rfl (one_of HT_.out (by kernel_rfl)) (by decide) (fun K hK => ?_)
                              refine goes_ Tryd.func16 (by kernel_rfl) rfl #[.int .i64 a3, .int .i64 (wrap64 ((t552.size : Int) + 1))] (by rfl) rfl rfl (by (try simp only [List.map_toArray, List.map_cons, List.map_nil]); first | done | rfl | (simp only [List.length_drop, List.length_take]; rfl)) ?_
                              with_reducible refine (keystonelaw2_within.calls a3 (wrap64 ((t552.size : Int) + 1)) t557 _ A20.out).mono ?_
                              rintro e w' ⟨rfl, ⟨nd, rfl⟩⟩
                              refine ⟨_, rfl, ?_⟩
                              refine hK.out _ _ ⟨(blk_cell BK550.out 0).trans rfl, (blk_cell BK550.out 1).trans rfl, (blk_cell BK550.out 2).trans rfl, (blk_cell BK550.out 3).trans rfl, (blk_cell BK555.out 0).trans rfl, (blk_cell BK555.out 1).trans rfl, HRD.out _ BKC.out⟩ (fun hHeld => ?_)
                              clear hK K
                              refine norm_ (a' := ?_) ?_ ?_
                              rotate_left
                              · show Act.put _ (some 57) _ = _
                                simp only [Act.put, List.setIfInBounds_toArray, List.set_cons_zero, List.set_cons_succ, i64_w, i32_w]
                                rfl
                              refine pure_ (i := 12) (N := some 58) (v := ?_) (a' := ?_) #[true, true, true, true, true, true, true, true, true, true, true, true, true, true, true, false, false, false, false, false, false, false, false, false, false, false, false, false, false, false, false, false, false, false, false, false, false, false] rfl rfl (any_of HT_.out (by kernel_rfl)) (fun _ _ _ h => h) (Or.inl ⟨by rfl, ?_⟩) ?_ ?_
                              rotate_left
                              · intro w'
                                go_simp
                                with_reducible rfl
                              rotate_left
                              · simp only [Act.put, List.setIfInBounds_toArray, List.set_cons_zero, List.set_cons_succ, i64_w, i32_w]
                                rfl
                              refine one_ (i := 15) (N := some 61) #[true, true, true, true, true, true, true, true, true, true, true, true, true, true, true, true, false, false, false, false, false, false, false, false, false, false, false, false, false, false, false, false, false, false, false, false, false, false] rfl rfl (one_of HT_.out (by kernel_rfl)) (by decide) (fun K hK => ?_)
                              refine goes_ Tryd.func9 (by kernel_rfl) rfl #[.string (t552.extract 0 (t557 : Int).toNat), .agg #[.slice A0_0 l0_0.length c0_0, .bool a0_1, .int .i64 a0_2, .string a0_3], .agg #[.slice A0_0 l0_0.length c0_0, .bool a0_1, .int .i64 a0_2, .string a0_3]] (by rfl) rfl rfl (by (try simp only [List.map_toArray, List.map_cons, List.map_nil]); first | done | rfl | (simp only [List.length_drop, List.length_take]; rfl)) ?_
                              with_reducible refine (keystonelaw2_DescSigs.calls kj8 (t552.extract 0 (t557 : Int).toNat) _ _ l0_0 a0_1 a0_2 a0_3 _ _ l0_0 a0_1 a0_2 a0_3 true _ ?side1 ?side2 ?side3 ?side4 (by first | exact rfl | exact HT.out) A23.out).mono ?_
                              (case side1 => repeat (first | exact (Kd.C_below HR0_0.out (by repeat (first | (with_reducible first | exact HB.out | apply below_alloc | apply pw_below_drewN | apply below_drew1 | refine below_set ?_ GE550.out | refine below_set ?_ GE555.out) | exact HB.out))) | (with_reducible refine Kd.C_alloc ?_ _) | (with_reducible refine Kd.C_drewN ?_ _) | (with_reducible refine Kd.C_drew ?_)))
                              (case side2 => exact HC0_0.out)
                              (case side3 => repeat (first | exact (Kd.C_below HR0_0.out (by repeat (first | (with_reducible first | exact HB.out | apply below_alloc | apply pw_below_drewN | apply below_drew1 | refine below_set ?_ GE550.out | refine below_set ?_ GE555.out) | exact HB.out))) | (with_reducible refine Kd.C_alloc ?_ _) | (with_reducible refine Kd.C_drewN ?_ _) | (with_reducible refine Kd.C_drew ?_)))
                              (case side4 => exact HC0_0.out)
                              rintro e w40 ⟨rfl, hb⟩
                              refine ⟨_, rfl, ?_⟩
                              have n0_ := Aside0.mk (blk_below (g := gb550) (o := .cells #[.slice A0_0 l0_0.length c0_0, .bool a0_1, .int .i64 a0_2, .string a0_3] 32 (0, 0)) (by (with_reducible repeat (first | refine blk_drewN ?_ _ | refine blk_drew ?_ | refine blk_alloc ?_ _)); exact BK550.out) hb)
                              have n1_ := Aside0.mk (blk_below (g := gb555) (o := .cells #[.int .i64 0, .string (⟨#[]⟩ : ByteArray)] 26 (0, 0)) (by (with_reducible repeat (first | refine blk_drewN ?_ _ | refine blk_drew ?_ | refine blk_alloc ?_ _)); exact BK555.out) hb)
                              have n2_ := Aside0.mk (below_step (by repeat (first | (with_reducible first | exact HB.out | apply below_alloc | apply pw_below_drewN | apply below_drew1 | refine below_set ?_ GE550.out | refine below_set ?_ GE555.out) | exact HB.out)) hb)
                              clear BK550
                              clear BK555
                              clear HB
                              have BK550 := n0_
                              have BK555 := n1_
                              have HB := n2_
                              clear n0_ n1_ n2_
                              have nC_ := Aside0.mk (blk_below (g := gc) (o := oC) (by (with_reducible repeat (first | refine blk_drewN ?_ _ | refine blk_drew ?_ | refine blk_alloc ?_ _)); exact BKC.out) hb)
                              clear BKC
                              have BKC := nC_
                              clear nC_
                              (try clear hb)
                              (try clear hb2)
                              (try clear hk)
                              (try clear hi)
                              refine hK.out _ _ ⟨(blk_cell BK550.out 0).trans rfl, (blk_cell BK550.out 1).trans rfl, (blk_cell BK550.out 2).trans rfl, (blk_cell BK550.out 3).trans rfl, (blk_cell BK555.out 0).trans rfl, (blk_cell BK555.out 1).trans rfl, HRD.out _ BKC.out⟩ (fun hHeld => ?_)
                              clear hK K
                              refine norm_ (a' := ?_) ?_ ?_
                              rotate_left
                              · show Act.put _ (some 61) _ = _
                                simp only [Act.put, List.setIfInBounds_toArray, List.set_cons_zero, List.set_cons_succ, i64_w, i32_w]
                                rfl
                              refine pure_ (i := 16) (N := some 62) (v := ?_) (a' := ?_) #[true, true, true, true, true, true, true, true, true, true, true, true, true, true, true, true, true, false, false, false, false, false, false, false, false, false, false, false, false, false, false, false, false, false, false, false, false, false] rfl rfl (any_of HT_.out (by kernel_rfl)) (fun _ _ _ h => h) (Or.inl ⟨by rfl, ?_⟩) ?_ ?_
                              rotate_left
                              · intro w'
                                go_simp
                                with_reducible rfl
                              rotate_left
                              · simp only [Act.put, List.setIfInBounds_toArray, List.set_cons_zero, List.set_cons_succ, i64_w, i32_w]
                                rfl
                              refine pure_ (i := 17) (N := some 63) (v := ?_) (a' := ?_) #[true, true, true, true, true, true, true, true, true, true, true, true, true, true, true, true, true, true, false, false, false, false, false, false, false, false, false, false, false, false, false, false, false, false, false, false, false, false] rfl rfl (any_of HT_.out (by kernel_rfl)) (fun _ _ _ h => h) (Or.inl ⟨by rfl, ?_⟩) ?_ ?_
                              rotate_left
                              · intro w'
                                go_simp
                                with_reducible rfl
                              rotate_left
                              · simp only [Act.put, List.setIfInBounds_toArray, List.set_cons_zero, List.set_cons_succ, i64_w, i32_w]
                                rfl
                              refine pure_ (i := 18) (N := some 64) (v := ?_) (a' := ?_) #[true, true, true, true, true, true, true, true, true, true, true, true, true, true, true, true, true, true, true, false, false, false, false, false, false, false, false, false, false, false, false, false, false, false, false, false, false, false] rfl rfl (any_of HT_.out (by kernel_rfl)) (fun _ _ _ h => h) (Or.inl ⟨by rfl, ?_⟩) ?_ ?_
                              rotate_left
                              · intro w'
                                go_simp
                                with_reducible rfl
                              rotate_left
                              · simp only [Act.put, List.setIfInBounds_toArray, List.set_cons_zero, List.set_cons_succ, i64_w, i32_w]
                                rfl
                              refine pure_ (i := 19) (N := some 65) (v := ?_) (a' := ?_) #[true, true, true, true, true, true, true, true, true, true, true, true, true, true, true, true, true, true, true, true, false, false, false, false, false, false, false, false, false, false, false, false, false, false, false, false, false, false] rfl rfl (any_of HT_.out (by kernel_rfl)) (fun _ _ _ h => h) (Or.inl ⟨by rfl, ?_⟩) ?_ ?_
                              rotate_left
                              · intro w'
                                go_simp
                                with_reducible rfl
                              rotate_left
                              · simp only [Act.put, List.setIfInBounds_toArray, List.set_cons_zero, List.set_cons_succ, i64_w, i32_w]
                                rfl
                              refine pure_ (i := 20) (N := some 66) (v := ?_) (a' := ?_) #[true, true, true, true, true, true, true, true, true, true, true, true, true, true, true, true, true, true, true, true, true, false, false, false, false, false, false, false, false, false, false, false, false, false, false, false, false, false] rfl rfl (any_of HT_.out (by kernel_rfl)) (fun _ _ _ h => h) (Or.inl ⟨by rfl, ?_⟩) ?_ ?_
                              rotate_left
                              · intro w'
                                go_simp
                                with_reducible rfl
                              rotate_left
                              · simp only [Act.put, List.setIfInBounds_toArray, List.set_cons_zero, List.set_cons_succ, i64_w, i32_w]
                                rfl
                              refine pure_ (i := 21) (N := some 67) (v := ?_) (a' := ?_) #[true, true, true, true, true, true, true, true, true, true, true, true, true, true, true, true, true, true, true, true, true, true, false, false, false, false, false, false, false, false, false, false, false, false, false, false, false, false] rfl rfl (any_of HT_.out (by kernel_rfl)) (fun _ _ _ h => h) (Or.inl ⟨by rfl, ?_⟩) ?_ ?_
                              rotate_left
                              · intro w'
                                go_simp
                                with_reducible rfl
                              rotate_left
                              · simp only [Act.put, List.setIfInBounds_toArray, List.set_cons_zero, List.set_cons_succ, i64_w, i32_w]
                                rfl
                              refine pure_ (i := 22) (N := some 68) (v := ?_) (a' := ?_) #[true, true, true, true, true, true, true, true, true, true, true, true, true, true, true, true, true, true, true, true, true, true, true, false, false, false, false, false, false, false, false, false, false, false, false, false, false, false] rfl rfl (any_of HT_.out (by kernel_rfl)) (fun _ _ _ h => h) (Or.inl ⟨by rfl, ?_⟩) ?_ ?_
                              rotate_left
                              · intro w'
                                go_simp
                                with_reducible rfl
                              rotate_left
                              · simp only [Act.put, List.setIfInBounds_toArray, List.set_cons_zero, List.set_cons_succ, i64_w, i32_w]
                                rfl
                              refine pure_ (i := 23) (N := some 69) (v := ?_) (a' := ?_) #[true, true, true, true, true, true, true, true, true, true, true, true, true, true, true, true, true, true, true, true, true, true, true, true, false, false, false, false, false, false, false, false, false, false, false, false, false, false] rfl rfl (any_of HT_.out (by kernel_rfl)) (fun _ _ _ h => h) (Or.inl ⟨by rfl, ?_⟩) ?_ ?_
                              rotate_left
                              · intro w'
                                go_simp
                                with_reducible rfl
                              rotate_left
                              · simp only [Act.put, List.setIfInBounds_toArray, List.set_cons_zero, List.set_cons_succ, i64_w, i32_w]
                                rfl
                              refine pure_ (i := 24) (N := some 70) (v := ?_) (a' := ?_) #[true, true, true, true, true, true, true, true, true, true, true, true, true, true, true, true, true, true, true, true, true, true, true, true, true, false, false, false, false, false, false, false, false, false, false, false, false, false] rfl rfl (any_of HT_.out (by kernel_rfl)) (fun _ _ _ h => h) (Or.inl ⟨by rfl, ?_⟩) ?_ ?_
                              rotate_left
                              · intro w'
                                go_simp
                                with_reducible rfl
                              rotate_left
                              · simp only [Act.put, List.setIfInBounds_toArray, List.set_cons_zero, List.set_cons_succ, i64_w, i32_w]
                                rfl
                              refine pure_ (i := 25) (N := some 71) (v := ?_) (a' := ?_) #[true, true, true, true, true, true, true, true, true, true, true, true, true, true, true, true, true, true, true, true, true, true, true, true, true, true, false, false, false, false, false, false, false, false, false, false, false, false] rfl rfl (any_of HT_.out (by kernel_rfl)) (fun _ _ _ h => h) (Or.inl ⟨by rfl, ?_⟩) ?_ ?_
                              rotate_left
                              · intro w'
                                go_simp
                                with_reducible rfl
                              rotate_left
                              · simp only [Act.put, List.setIfInBounds_toArray, List.set_cons_zero, List.set_cons_succ, i64_w, i32_w]
                                rfl
                              refine pure_ (i := 26) (N := some 72) (v := ?_) (a' := ?_) #[true, true, true, true, true, true, true, true, true, true, true, true, true, true, true, true, true, true, true, true, true, true, true, true, true, true, true, false, false, false, false, false, false, false, false, false, false, false] rfl rfl (any_of HT_.out (by kernel_rfl)) (fun _ _ _ h => h) (Or.inl ⟨by rfl, ?_⟩) ?_ ?_
                              rotate_left
                              · intro w'
                                go_simp
                                with_reducible rfl
                              rotate_left
                              · simp only [Act.put, List.setIfInBounds_toArray, List.set_cons_zero, List.set_cons_succ, i64_w, i32_w]
                                rfl
                              refine take_ (i := 27) (N := some 73) (v := ?_) (a' := ?_) #[true, true, true, true, true, true, true, true, true, true, true, true, true, true, true, true, true, true, true, true, true, true, true, true, true, true, true, true, false, false, false, false, false, false, false, false, false, false] rfl rfl (take_ofW HT_.out HW_.out (by kernel_rfl)) (fun _ _ _ h => h) (Or.inl ⟨by rfl, ?_⟩) hHeld ?_ ?_
                              rotate_left
                              · rintro w' ⟨s0, s1, s2, s3, s4, s5, s6⟩
                                go_simp
                                with_reducible rfl
                              rotate_left
                              · simp only [Act.put, List.setIfInBounds_toArray, List.set_cons_zero, List.set_cons_succ, i64_w, i32_w]
                                rfl
                              refine take_ (i := 28) (N := some 74) (v := ?_) (a' := ?_) #[true, true, true, true, true, true, true, true, true, true, true, true, true, true, true, true, true, true, true, true, true, true, true, true, true, true, true, true, true, false, false, false, false, false, false, false, false, false] rfl rfl (take_ofW HT_.out HW_.out (by kernel_rfl)) (fun _ _ _ h => h) (Or.inl ⟨by rfl, ?_⟩) hHeld ?_ ?_
                              rotate_left
                              · rintro w' ⟨s0, s1, s2, s3, s4, s5, s6⟩
                                go_simp
                                with_reducible rfl
                              rotate_left
                              · simp only [Act.put, List.setIfInBounds_toArray, List.set_cons_zero, List.set_cons_succ, i64_w, i32_w]
                                rfl
                              refine one_ (i := 29) (N := some 75) #[true, true, true, true, true, true, true, true, true, true, true, true, true, true, true, true, true, true, true, true, true, true, true, true, true, true, true, true, true, true, false, false, false, false, false, false, false, false] rfl rfl (one_of HT_.out (by kernel_rfl)) (by decide) (fun K hK => ?_)
                              refine goes_ Tryd.func9 (by kernel_rfl) rfl #[.string (((t552.extract 0 (t554 : Int).toNat) ++ a4) ++ (t552.extract (t554 : Int).toNat t552.size)), .agg #[.slice A0_0 l0_0.length c0_0, .bool a0_1, .int .i64 a0_2, .string a0_3], .agg #[.slice A0_0 l0_0.length c0_0, .bool a0_1, .int .i64 a0_2, .string a0_3]] (by rfl) rfl rfl (by (try simp only [List.map_toArray, List.map_cons, List.map_nil]); first | done | rfl | (simp only [List.length_drop, List.length_take]; rfl)) ?_
                              with_reducible refine (keystonelaw2_DescSigs.calls kj8 (((t552.extract 0 (t554 : Int).toNat) ++ a4) ++ (t552.extract (t554 : Int).toNat t552.size)) _ _ l0_0 a0_1 a0_2 a0_3 _ _ l0_0 a0_1 a0_2 a0_3 true _ ?side1 ?side2 ?side3 ?side4 (by first | exact rfl | exact HT.out) A31.out).mono ?_
                              (case side1 => repeat (first | exact (Kd.C_below HR0_0.out HB.out) | (with_reducible refine Kd.C_alloc ?_ _) | (with_reducible refine Kd.C_drewN ?_ _) | (with_reducible refine Kd.C_drew ?_)))
                              (case side2 => exact HC0_0.out)
                              (case side3 => repeat (first | exact (Kd.C_below HR0_0.out HB.out) | (with_reducible refine Kd.C_alloc ?_ _) | (with_reducible refine Kd.C_drewN ?_ _) | (with_reducible refine Kd.C_drew ?_)))
                              (case side4 => exact HC0_0.out)
                              rintro e w41 ⟨rfl, hb⟩
                              refine ⟨_, rfl, ?_⟩
                              have n0_ := Aside0.mk (blk_below (g := gb550) (o := .cells #[.slice A0_0 l0_0.length c0_0, .bool a0_1, .int .i64 a0_2, .string a0_3] 32 (0, 0)) (by (with_reducible repeat (first | refine blk_drewN ?_ _ | refine blk_drew ?_ | refine blk_alloc ?_ _)); exact BK550.out) hb)
                              have n1_ := Aside0.mk (blk_below (g := gb555) (o := .cells #[.int .i64 0, .string (⟨#[]⟩ : ByteArray)] 26 (0, 0)) (by (with_reducible repeat (first | refine blk_drewN ?_ _ | refine blk_drew ?_ | refine blk_alloc ?_ _)); exact BK555.out) hb)
                              have n2_ := Aside0.mk (below_step (by repeat (first | (with_reducible first | exact HB.out | apply below_alloc | apply pw_below_drewN | apply below_drew1 | refine below_set ?_ GE550.out | refine below_set ?_ GE555.out) | exact HB.out)) hb)
                              clear BK550
                              clear BK555
                              clear HB
                              have BK550 := n0_
                              have BK555 := n1_
                              have HB := n2_
                              clear n0_ n1_ n2_
                              have nC_ := Aside0.mk (blk_below (g := gc) (o := oC) (by (with_reducible repeat (first | refine blk_drewN ?_ _ | refine blk_drew ?_ | refine blk_alloc ?_ _)); exact BKC.out) hb)
                              clear BKC
                              have BKC := nC_
                              clear nC_
                              (try clear hb)
                              (try clear hb2)
                              (try clear hk)
                              (try clear hi)
                              refine hK.out _ _ ⟨(blk_cell BK550.out 0).trans rfl, (blk_cell BK550.out 1).trans rfl, (blk_cell BK550.out 2).trans rfl, (blk_cell BK550.out 3).trans rfl, (blk_cell BK555.out 0).trans rfl, (blk_cell BK555.out 1).trans rfl, HRD.out _ BKC.out⟩ (fun hHeld => ?_)
                              clear hK K
                              refine norm_ (a' := ?_) ?_ ?_
                              rotate_left
                              · show Act.put _ (some 75) _ = _
                                simp only [Act.put, List.setIfInBounds_toArray, List.set_cons_zero, List.set_cons_succ, i64_w, i32_w]
                                rfl
                              refine pure_ (i := 30) (N := some 76) (v := ?_) (a' := ?_) #[true, true, true, true, true, true, true, true, true, true, true, true, true, true, true, true, true, true, true, true, true, true, true, true, true, true, true, true, true, true, true, false, false, false, false, false, false, false] rfl rfl (any_of HT_.out (by kernel_rfl)) (fun _ _ _ h => h) (Or.inl ⟨by rfl, ?_⟩) ?_ ?_
                              rotate_left
                              · intro w'
                                go_simp
                                with_reducible rfl
                              rotate_left
                              · simp only [Act.put, List.setIfInBounds_toArray, List.set_cons_zero, List.set_cons_succ, i64_w, i32_w]
                                rfl
                              refine pure_ (i := 31) (N := some 77) (v := ?_) (a' := ?_) #[true, true, true, true, true, true, true, true, true, true, true, true, true, true, true, true, true, true, true, true, true, true, true, true, true, true, true, true, true, true, true, true, false, false, false, false, false, false] rfl rfl (any_of HT_.out (by kernel_rfl)) (fun _ _ _ h => h) (Or.inl ⟨by rfl, ?_⟩) ?_ ?_
                              rotate_left
                              · intro w'
                                go_simp
                                with_reducible rfl
                              rotate_left
                              · simp only [Act.put, List.setIfInBounds_toArray, List.set_cons_zero, List.set_cons_succ, i64_w, i32_w]
                                rfl
                              refine pure_ (i := 32) (N := some 78) (v := ?_) (a' := ?_) #[true, true, true, true, true, true, true, true, true, true, true, true, true, true, true, true, true, true, true, true, true, true, true, true, true, true, true, true, true, true, true, true, true, false, false, false, false, false] rfl rfl (any_of HT_.out (by kernel_rfl)) (fun _ _ _ h => h) (Or.inl ⟨by rfl, ?_⟩) ?_ ?_
                              rotate_left
                              · intro w'
                                go_simp
                                with_reducible rfl
                              rotate_left
                              · simp only [Act.put, List.setIfInBounds_toArray, List.set_cons_zero, List.set_cons_succ, i64_w, i32_w]
                                rfl
                              refine take_ (i := 33) (N := some 79) (v := ?_) (a' := ?_) #[true, true, true, true, true, true, true, true, true, true, true, true, true, true, true, true, true, true, true, true, true, true, true, true, true, true, true, true, true, true, true, true, true, true, false, false, false, false] rfl rfl (take_ofW HT_.out HW_.out (by kernel_rfl)) (fun _ _ _ h => h) (Or.inl ⟨by rfl, ?_⟩) hHeld ?_ ?_
                              rotate_left
                              · rintro w' ⟨s0, s1, s2, s3, s4, s5, s6⟩
                                have hcv := turn_string (c := capC) (s := t552) (i := t554) (x := a2) s6
                                go_simp
                                with_reducible rfl
                              rotate_left
                              · simp only [Act.put, List.setIfInBounds_toArray, List.set_cons_zero, List.set_cons_succ, i64_w, i32_w]
                                rfl
                              refine take_ (i := 34) (N := some 80) (v := ?_) (a' := ?_) #[true, true, true, true, true, true, true, true, true, true, true, true, true, true, true, true, true, true, true, true, true, true, true, true, true, true, true, true, true, true, true, true, true, true, true, false, false, false] rfl rfl (take_ofW HT_.out HW_.out (by kernel_rfl)) (fun _ _ _ h => h) (Or.inl ⟨by rfl, ?_⟩) hHeld ?_ ?_
                              rotate_left
                              · rintro w' ⟨s0, s1, s2, s3, s4, s5, s6⟩
                                go_simp
                                with_reducible rfl
                              rotate_left
                              · simp only [Act.put, List.setIfInBounds_toArray, List.set_cons_zero, List.set_cons_succ, i64_w, i32_w]
                                rfl
                              refine one_ (i := 35) (N := some 81) #[true, true, true, true, true, true, true, true, true, true, true, true, true, true, true, true, true, true, true, true, true, true, true, true, true, true, true, true, true, true, true, true, true, true, true, true, false, false] rfl rfl (one_of HT_.out (by kernel_rfl)) (by decide) (fun K hK => ?_)
                              refine goes_ Tryd.func6 (by kernel_rfl) rfl #[.string (turnB t552 t554 a2), .agg #[.int .i64 0, .string (⟨#[]⟩ : ByteArray)]] (by rfl) rfl rfl (by (try simp only [List.map_toArray, List.map_cons, List.map_nil]); first | done | rfl | (simp only [List.length_drop, List.length_take]; rfl)) ?_
                              with_reducible refine (keystonelaw2_DescTypes.calls kj8 (turnB t552 t554 a2) 0 (⟨#[]⟩ : ByteArray) t560 _ (by first | exact rfl | exact HT.out) A33.out).mono ?_
                              rintro e w42 ⟨rfl, hb⟩
                              refine ⟨_, rfl, ?_⟩
                              have n0_ := Aside0.mk (blk_below (g := gb550) (o := .cells #[.slice A0_0 l0_0.length c0_0, .bool a0_1, .int .i64 a0_2, .string a0_3] 32 (0, 0)) (by (with_reducible repeat (first | refine blk_drewN ?_ _ | refine blk_drew ?_ | refine blk_alloc ?_ _)); exact BK550.out) hb)
                              have n1_ := Aside0.mk (blk_below (g := gb555) (o := .cells #[.int .i64 0, .string (⟨#[]⟩ : ByteArray)] 26 (0, 0)) (by (with_reducible repeat (first | refine blk_drewN ?_ _ | refine blk_drew ?_ | refine blk_alloc ?_ _)); exact BK555.out) hb)
                              have n2_ := Aside0.mk (below_step (by repeat (first | (with_reducible first | exact HB.out | apply below_alloc | apply pw_below_drewN | apply below_drew1 | refine below_set ?_ GE550.out | refine below_set ?_ GE555.out) | exact HB.out)) hb)
                              clear BK550
                              clear BK555
                              clear HB
                              have BK550 := n0_
                              have BK555 := n1_
                              have HB := n2_
                              clear n0_ n1_ n2_
                              have nC_ := Aside0.mk (blk_below (g := gc) (o := oC) (by (with_reducible repeat (first | refine blk_drewN ?_ _ | refine blk_drew ?_ | refine blk_alloc ?_ _)); exact BKC.out) hb)
                              clear BKC
                              have BKC := nC_
                              clear nC_
                              (try clear hb)
                              (try clear hb2)
                              (try clear hk)
                              (try clear hi)
                              refine hK.out _ _ ⟨(blk_cell BK550.out 0).trans rfl, (blk_cell BK550.out 1).trans rfl, (blk_cell BK550.out 2).trans rfl, (blk_cell BK550.out 3).trans rfl, (blk_cell BK555.out 0).trans rfl, (blk_cell BK555.out 1).trans rfl, HRD.out _ BKC.out⟩ (fun hHeld => ?_)
                              clear hK K
                              refine norm_ (a' := ?_) ?_ ?_
                              rotate_left
                              · show Act.put _ (some 81) _ = _
                                simp only [Act.put, List.setIfInBounds_toArray, List.set_cons_zero, List.set_cons_succ, i64_w, i32_w]
                                rfl
                              refine pure_ (i := 36) (N := some 82) (v := ?_) (a' := ?_) #[true, true, true, true, true, true, true, true, true, true, true, true, true, true, true, true, true, true, true, true, true, true, true, true, true, true, true, true, true, true, true, true, true, true, true, true, true, false] rfl rfl (any_of HT_.out (by kernel_rfl)) (fun _ _ _ h => h) (Or.inl ⟨by rfl, ?_⟩) ?_ ?_
                              rotate_left
                              · intro w'
                                go_simp
                                with_reducible rfl
                              rotate_left
                              · simp only [Act.put, List.setIfInBounds_toArray, List.set_cons_zero, List.set_cons_succ, i64_w, i32_w]
                                rfl
                              refine pure_ (i := 37) (N := some 10) (v := ?_) (a' := ?_) #[true, true, true, true, true, true, true, true, true, true, true, true, true, true, true, true, true, true, true, true, true, true, true, true, true, true, true, true, true, true, true, true, true, true, true, true, true, true] rfl rfl (any_of HT_.out (by kernel_rfl)) (fun _ _ _ h => h) (Or.inl ⟨by rfl, ?_⟩) ?_ ?_
                              rotate_left
                              · intro w'
                                go_simp
                                with_reducible rfl
                              rotate_left
                              · simp only [Act.put, List.setIfInBounds_toArray, List.set_cons_zero, List.set_cons_succ, i64_w, i32_w]
                                rfl
                              refine done_ (done_of HT_.out (by kernel_rfl)) ?_
                              try go_wp2
                              go_ret
                              exact ⟨by first | rfl | (simp [errW_none, errW_some] <;> rfl) | (simp [*, errW_none, errW_some] <;> rfl), by repeat (first | (with_reducible first | exact HB.out | apply below_alloc | apply pw_below_drewN | apply below_drew1 | refine below_set ?_ GE550.out | refine below_set ?_ GE555.out) | exact HB.out)⟩
                            · replace c32 := Bool.eq_false_iff.mpr c32
                              subst c32
                              have H1 : (some false) = some r := by rw [if_neg (show ¬ (false = true) by decide)] at H; exact H
                              clear H
                              have H := H1
                              clear H1
                              obtain rfl := Option.some.inj H
                              exact absurd HT.out (by decide)
                          · rw [if_neg c30] at H
                            exact absurd H (by simp)
                        · rw [if_neg c27] at H
                          exact absurd H (by simp)
                      · rw [if_neg c26] at H
                        exact absurd H (by simp)
                    · rw [if_neg c25] at H
                      exact absurd H (by simp)
                  · replace c24 := Bool.eq_false_iff.mpr c24
                    subst c24
                    have H1 : (some false) = some r := by rw [if_neg (show ¬ (false = true) by decide)] at H; exact H
                    clear H
                    have H := H1
                    clear H1
                    obtain rfl := Option.some.inj H
                    exact absurd HT.out (by decide)
                · rw [if_neg c22] at H
                  exact absurd H (by simp)
              · rw [if_neg c21] at H
                exact absurd H (by simp)
            · replace c19 := Bool.eq_false_iff.mpr c19
              subst c19
              have H1 : (some false) = some r := by rw [if_neg (show ¬ (false = true) by decide)] at H; exact H
              clear H
              have H := H1
              clear H1
              obtain rfl := Option.some.inj H
              exact absurd HT.out (by decide)
          · rw [if_neg c17] at H
            exact absurd H (by simp)
  · replace c7 := Bool.eq_false_iff.mpr c7
    subst c7
    have H1 : (some false) = some r := by rw [if_neg (show ¬ (false = true) by decide)] at H; exact H
    clear H
    have H := H1
    clear H1
    obtain rfl := Option.some.inj H
    exact absurd HT.out (by decide)

end Go.Proofs.YtlajkmnmooilmaaDoor.P
