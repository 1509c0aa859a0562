-- Written by my program xprint.py (a patched run of the kit's print). Lean checks it.
import Derived.Test.YtldejfkplnejjaaDoorP0
import Derived.Test.YtldejfkplnejjaaDoorP3
import Derived.Test.YtldejfkplnejjaaDoorP5
import Derived.Test.YtldejfkplnejjaaDoorExt
import Derived.Test.YtldejfkplnejjaaDoorShort
import Derived.Test.YtldejfkplnejjaaDoorShort2
import Derived.Test.YtldejfkplnejjaaDoorExtSig
namespace Go.Proofs.YtldejfkplnejjaaDoor.P
open Go.RowKit Go.Proofs.YtldejfkplnejjaaDoorW.PrintWords Go.Proofs.YtldejfkplnejjaaDoorW.PrintLast Go.Proofs.YtldejfkplnejjaaDoorW.PrintMore
attribute [local go_sem] max2_int min2_int max_two min_two max_three min_three max_four min_four   -- for this text's walks alone
set_option linter.unusedVariables false
set_option linter.unusedSimpArgs false
def pool_right.f (k : Nat) (l0 : List (S50)) (a1 : Int) (a2 : Int) : Option (Int × ByteArray × Int × Int × Int × Int × Int) := (pool_kind.f l0 a1 a2).bind fun bt223 => (if bt223.2.2.2.2.2.2 = 0 then ((pool_wrong.f k l0 bt223.1 bt223.2.1 bt223.2.2.1 bt223.2.2.2.1 bt223.2.2.2.2.1 bt223.2.2.2.2.2.1).bind fun t231 => (if t231 = 0 then (some (bt223.1, bt223.2.1, bt223.2.2.1, bt223.2.2.2.1, bt223.2.2.2.2.1, bt223.2.2.2.2.2.1, 0)) else (some (0, (⟨#[]⟩ : ByteArray), 0, 0, 0, 0, t231)))) else (some (0, (⟨#[]⟩ : ByteArray), 0, 0, 0, 0, bt223.2.2.2.2.2.2)))
set_option maxHeartbeats 8000000 in
set_option maxRecDepth 100000 in
theorem pool_right.calls (k : Nat) (A0 : Option Addr) (c0 : Nat) (l0 : List (S50)) (a1 : Int) (a2 : Int) (r1 : Int) (r2 : ByteArray) (r3 : Int) (r4 : Int) (r5 : Int) (r6 : Int) (r7 : Int) (w : World) (hr0 : Kd.C k50 w A0 l0.length l0) (hc0 : l0.length ≤ c0) (h : pool_right.f k l0 a1 a2 = some (r1, r2, r3, r4, r5, r6, r7)) :
    Calls Tryd.prog 41 #[.slice A0 l0.length c0, .int .i64 a1, .int .i64 a2] w fun e w' => e = .returned (.tuple #[.agg #[.int .i64 r1, .string r2, .int .i64 r3, .int .i64 r4, .int .i64 r5, .int .i64 r6], .int .i64 r7]) ∧ Below w.heap.size w w' := by
  have hu50 := Tryd.underlying50
  have HR0 := Aside0.mk hr0
  have HC0 := Aside0.mk hc0
  clear hr0 hc0
  have HB := Aside0.mk (Below.refl w.heap.size w)
  have H : ((pool_kind.f l0 a1 a2).bind fun bt223 => (if bt223.2.2.2.2.2.2 = 0 then ((pool_wrong.f k l0 bt223.1 bt223.2.1 bt223.2.2.1 bt223.2.2.2.1 bt223.2.2.2.2.1 bt223.2.2.2.2.2.1).bind fun t231 => (if t231 = 0 then (some (bt223.1, bt223.2.1, bt223.2.2.1, bt223.2.2.2.1, bt223.2.2.2.2.1, bt223.2.2.2.2.2.1, 0)) else (some (0, (⟨#[]⟩ : ByteArray), 0, 0, 0, 0, t231)))) else (some (0, (⟨#[]⟩ : ByteArray), 0, 0, 0, 0, bt223.2.2.2.2.2.2)))) = some (r1, r2, r3, r4, r5, r6, r7) := h
  clear h
  replace H := Option.bind_eq_some_iff.mp H
  obtain ⟨⟨t223, t224, t225, t226, t227, t228, t229⟩, A40, H⟩ := H
  replace H : (if t229 = 0 then ((pool_wrong.f k l0 t223 t224 t225 t226 t227 t228).bind fun t231 => (if t231 = 0 then (some (t223, t224, t225, t226, t227, t228, 0)) else (some (0, (⟨#[]⟩ : ByteArray), 0, 0, 0, 0, t231)))) else (some (0, (⟨#[]⟩ : ByteArray), 0, 0, 0, 0, t229))) = some (r1, r2, r3, r4, r5, r6, r7) := H
  have A4 := Aside0.mk A40
  clear A40
  by_cases c5 : t229 = 0
  · rw [if_pos c5] at H
    have c5b0 : (t229 == 0) = true := beq_iff_eq.mpr c5
    have c5b1 : (t229 != 0) = false := bne_eq_false_iff_eq.mpr c5
    clear c5
    replace H := Option.bind_eq_some_iff.mp H
    obtain ⟨t231, A60, H⟩ := H
    replace H : (if t231 = 0 then (some (t223, t224, t225, t226, t227, t228, 0)) else (some (0, (⟨#[]⟩ : ByteArray), 0, 0, 0, 0, t231))) = some (r1, r2, r3, r4, r5, r6, r7) := H
    have A6 := Aside0.mk A60
    clear A60
    by_cases c7 : t231 = 0
    · rw [if_pos c7] at H
      have c7b0 : (t231 == 0) = true := beq_iff_eq.mpr c7
      have c7b1 : (t231 != 0) = false := bne_eq_false_iff_eq.mpr c7
      clear c7
      simp only [Option.some.injEq, Prod.mk.injEq] at H
      obtain ⟨rfl, rfl, rfl, rfl, rfl, rfl, rfl⟩ := H
      go_enter Tryd.func41, Tryd.ntmps41
      go_wp2_with (first | ((with_reducible refine d_ 6 ?_); refine X_ 6 #[.int .i64 0, .string (⟨#[]⟩ : ByteArray), .int .i64 0, .int .i64 0, .int .i64 0, .int .i64 0] 50 ?_; intro gb222 hg w8 hbox hb; have BK222 := Aside0.mk hbox; have GW222 := Aside0.mk (s_ hg); have GE222 := GW222; have HB := bs_ hb; clear hb hbox hg) | ((with_reducible refine gt_ 80 ?_); refine gd_ 14 Tryd.func80 (pool_kind.calls _ _ l0 a1 a2 t223 t224 t225 t226 t227 t228 t229 _ (Y_ (Kd.C_below HR0.out HB.out)) HC0.out A4.out) ?_; intro w9 hb; have BK222 := kb_ BK222 hb; have HB := bs_ hb; (try clear hb); (try clear hb2); (try clear hk); (try clear hi)) | ((with_reducible refine d_ 8 ?_); refine X_ 8 #[.int .i64 0, .string (⟨#[]⟩ : ByteArray), .int .i64 0, .int .i64 0, .int .i64 0, .int .i64 0] 50 ?_; intro gb230 hg w10 hbox hb; have BK230 := Aside0.mk hbox; have GW230 := Aside0.mk (s_ hg); have GE230 := GW230; have NB222_230 := Aside0.mk (xx_ hg BK222); have BK222 := kb_ BK222 hb; have NB230_222 := Aside0.mk NB222_230.out.symm; have HB := bs_ hb; clear hb hbox hg; have hnb11 := NB230_222.out; have hnc11 := NB222_230.out; obtain ⟨hcz12_0, hcz12_1, hcz12_2, hcz12_3, hcz12_4, hcz12_5, hfz12_0, hfz12_1, hfz12_2, hfz12_3, hfz12_4, hfz12_5⟩ := c6_ BK230.out) | ((with_reducible refine gt_ 39 ?_); refine gd_ 21 Tryd.func39 (pool_wrong.calls k _ _ l0 t223 t224 t225 t226 t227 t228 t231 _ (Kd.C_below HR0.out B_) HC0.out A6.out) ?_; intro w13 hb; have BK222 := Aside0.mk (blk_below (g := gb222) (o := .cells #[.int .i64 0, .string (⟨#[]⟩ : ByteArray), .int .i64 0, .int .i64 0, .int .i64 0, .int .i64 0] 50 (0, 0)) P_ hb); have BK230 := Aside0.mk (blk_below (g := gb230) (o := .cells #[.int .i64 t223, .string t224, .int .i64 t225, .int .i64 t226, .int .i64 t227, .int .i64 t228] 50 (0, 0)) P_ hb); have HB := bs_ hb; (try clear hb); (try clear hb2); (try clear hk); (try clear hi); obtain ⟨hcz14_0, hcz14_1, hcz14_2, hcz14_3, hcz14_4, hcz14_5, hfz14_0, hfz14_1, hfz14_2, hfz14_3, hfz14_4, hfz14_5⟩ := c6_ BK230.out; obtain ⟨hcz15_0, hcz15_1, hcz15_2, hcz15_3, hcz15_4, hcz15_5, hfz15_0, hfz15_1, hfz15_2, hfz15_3, hfz15_4, hfz15_5⟩ := c6_ BK222.out))
      refine bodyPost_ret (results_ct rfl _ _ gb222 50 #[.int .i64 t223, .string t224, .int .i64 t225, .int .i64 t226, .int .i64 t227, .int .i64 t228] (0, 0) _ rfl P_ Tryd.underlying50 rfl (by kernel_rfl)) rfl ?_
      exact ⟨E_, B_⟩
    · rw [if_neg c7] at H
      have c7b0 : (t231 == 0) = false := beq_eq_false_iff_ne.mpr c7
      have c7b1 : (t231 != 0) = true := bne_iff_ne.mpr c7
      simp only [Option.some.injEq, Prod.mk.injEq] at H
      obtain ⟨rfl, rfl, rfl, rfl, rfl, rfl, rfl⟩ := H
      go_enter Tryd.func41, Tryd.ntmps41
      go_wp2_with (first | ((with_reducible refine d_ 6 ?_); refine X_ 6 #[.int .i64 0, .string (⟨#[]⟩ : ByteArray), .int .i64 0, .int .i64 0, .int .i64 0, .int .i64 0] 50 ?_; intro gb222 hg w16 hbox hb; have BK222 := Aside0.mk hbox; have GW222 := Aside0.mk (s_ hg); have GE222 := GW222; have HB := bs_ hb; clear hb hbox hg) | ((with_reducible refine gt_ 80 ?_); refine gd_ 14 Tryd.func80 (pool_kind.calls _ _ l0 a1 a2 t223 t224 t225 t226 t227 t228 t229 _ (Y_ (Kd.C_below HR0.out HB.out)) HC0.out A4.out) ?_; intro w17 hb; have BK222 := kb_ BK222 hb; have HB := bs_ hb; (try clear hb); (try clear hb2); (try clear hk); (try clear hi)) | ((with_reducible refine d_ 8 ?_); refine X_ 8 #[.int .i64 0, .string (⟨#[]⟩ : ByteArray), .int .i64 0, .int .i64 0, .int .i64 0, .int .i64 0] 50 ?_; intro gb230 hg w18 hbox hb; have BK230 := Aside0.mk hbox; have GW230 := Aside0.mk (s_ hg); have GE230 := GW230; have NB222_230 := Aside0.mk (xx_ hg BK222); have BK222 := kb_ BK222 hb; have NB230_222 := Aside0.mk NB222_230.out.symm; have HB := bs_ hb; clear hb hbox hg; have hnb19 := NB230_222.out; have hnc19 := NB222_230.out; obtain ⟨hcz20_0, hcz20_1, hcz20_2, hcz20_3, hcz20_4, hcz20_5, hfz20_0, hfz20_1, hfz20_2, hfz20_3, hfz20_4, hfz20_5⟩ := c6_ BK230.out) | ((with_reducible refine gt_ 39 ?_); refine gd_ 21 Tryd.func39 (pool_wrong.calls k _ _ l0 t223 t224 t225 t226 t227 t228 t231 _ (Kd.C_below HR0.out B_) HC0.out A6.out) ?_; intro w21 hb; have BK222 := Aside0.mk (blk_below (g := gb222) (o := .cells #[.int .i64 0, .string (⟨#[]⟩ : ByteArray), .int .i64 0, .int .i64 0, .int .i64 0, .int .i64 0] 50 (0, 0)) P_ hb); have BK230 := Aside0.mk (blk_below (g := gb230) (o := .cells #[.int .i64 t223, .string t224, .int .i64 t225, .int .i64 t226, .int .i64 t227, .int .i64 t228] 50 (0, 0)) P_ hb); have HB := bs_ hb; (try clear hb); (try clear hb2); (try clear hk); (try clear hi); obtain ⟨hcz22_0, hcz22_1, hcz22_2, hcz22_3, hcz22_4, hcz22_5, hfz22_0, hfz22_1, hfz22_2, hfz22_3, hfz22_4, hfz22_5⟩ := c6_ BK222.out))
      refine bodyPost_ret (results_ct rfl _ _ gb222 50 #[.int .i64 0, .string (⟨#[]⟩ : ByteArray), .int .i64 0, .int .i64 0, .int .i64 0, .int .i64 0] (0, 0) _ rfl P_ Tryd.underlying50 rfl (by kernel_rfl)) rfl ?_
      exact ⟨E_, B_⟩
  · rw [if_neg c5] at H
    have c5b0 : (t229 == 0) = false := beq_eq_false_iff_ne.mpr c5
    have c5b1 : (t229 != 0) = true := bne_iff_ne.mpr c5
    simp only [Option.some.injEq, Prod.mk.injEq] at H
    obtain ⟨rfl, rfl, rfl, rfl, rfl, rfl, rfl⟩ := H
    go_enter Tryd.func41, Tryd.ntmps41
    go_wp2_with (first | ((with_reducible refine d_ 6 ?_); refine X_ 6 #[.int .i64 0, .string (⟨#[]⟩ : ByteArray), .int .i64 0, .int .i64 0, .int .i64 0, .int .i64 0] 50 ?_; intro gb222 hg w23 hbox hb; have BK222 := Aside0.mk hbox; have GW222 := Aside0.mk (s_ hg); have GE222 := GW222; have HB := bs_ hb; clear hb hbox hg) | ((with_reducible refine gt_ 80 ?_); refine gd_ 14 Tryd.func80 (pool_kind.calls _ _ l0 a1 a2 t223 t224 t225 t226 t227 t228 t229 _ (Y_ (Kd.C_below HR0.out HB.out)) HC0.out A4.out) ?_; intro w24 hb; have BK222 := kb_ BK222 hb; have HB := bs_ hb; (try clear hb); (try clear hb2); (try clear hk); (try clear hi)) | ((with_reducible refine d_ 8 ?_); refine X_ 8 #[.int .i64 0, .string (⟨#[]⟩ : ByteArray), .int .i64 0, .int .i64 0, .int .i64 0, .int .i64 0] 50 ?_; intro gb230 hg w25 hbox hb; have BK230 := Aside0.mk hbox; have GW230 := Aside0.mk (s_ hg); have GE230 := GW230; have NB222_230 := Aside0.mk (xx_ hg BK222); have BK222 := kb_ BK222 hb; have NB230_222 := Aside0.mk NB222_230.out.symm; have HB := bs_ hb; clear hb hbox hg; have hnb26 := NB230_222.out; have hnc26 := NB222_230.out; obtain ⟨hcz27_0, hcz27_1, hcz27_2, hcz27_3, hcz27_4, hcz27_5, hfz27_0, hfz27_1, hfz27_2, hfz27_3, hfz27_4, hfz27_5⟩ := c6_ BK230.out; obtain ⟨hcz28_0, hcz28_1, hcz28_2, hcz28_3, hcz28_4, hcz28_5, hfz28_0, hfz28_1, hfz28_2, hfz28_3, hfz28_4, hfz28_5⟩ := c6_ BK222.out))
    refine bodyPost_ret (results_ct rfl _ _ gb222 50 #[.int .i64 0, .string (⟨#[]⟩ : ByteArray), .int .i64 0, .int .i64 0, .int .i64 0, .int .i64 0] (0, 0) _ rfl P_ Tryd.underlying50 rfl (by kernel_rfl)) rfl ?_
    exact ⟨E_, B_⟩
def pool_Text.f (k : Nat) (l0 : List (S50)) (a1 : Int) : Option (ByteArray × Int) := (pool_right.f k l0 a1 1).bind fun bt232 => (some (bt232.2.1, bt232.2.2.2.2.2.2))
set_option maxHeartbeats 8000000 in
set_option maxRecDepth 100000 in
theorem pool_Text.calls (k : Nat) (A0 : Option Addr) (c0 : Nat) (l0 : List (S50)) (a1 : Int) (r1 : ByteArray) (r2 : Int) (w : World) (hr0 : Kd.C k50 w A0 l0.length l0) (hc0 : l0.length ≤ c0) (h : pool_Text.f k l0 a1 = some (r1, r2)) :
    Calls Tryd.prog 18 #[.slice A0 l0.length c0, .int .i64 a1] w fun e w' => e = .returned (.tuple #[.string r1, .int .i64 r2]) ∧ Below w.heap.size w w' := by
  have hu50 := Tryd.underlying50
  have HR0 := Aside0.mk hr0
  have HC0 := Aside0.mk hc0
  clear hr0 hc0
  have HB := Aside0.mk (Below.refl w.heap.size w)
  have H : ((pool_right.f k l0 a1 1).bind fun bt232 => (some (bt232.2.1, bt232.2.2.2.2.2.2))) = some (r1, r2) := h
  clear h
  replace H := Option.bind_eq_some_iff.mp H
  obtain ⟨⟨t232, t233, t234, t235, t236, t237, t238⟩, A30, H⟩ := H
  replace H : (some (t233, t238)) = some (r1, r2) := H
  have A3 := Aside0.mk A30
  clear A30
  simp only [Option.some.injEq, Prod.mk.injEq] at H
  obtain ⟨rfl, rfl⟩ := H
  go_enter Tryd.func18, Tryd.ntmps18
  go_wp2_with (first | ((with_reducible refine gt_ 41 ?_); refine gd_ 11 Tryd.func41 (pool_right.calls k _ _ l0 a1 1 t232 t233 t234 t235 t236 t237 t238 _ (Y_ HR0.out) HC0.out A3.out) ?_; intro w4 hb; have HB := bs_ hb; (try clear hb); (try clear hb2); (try clear hk); (try clear hi)) | ((with_reducible refine d_ 6 ?_); refine X_ 6 #[.int .i64 0, .string (⟨#[]⟩ : ByteArray), .int .i64 0, .int .i64 0, .int .i64 0, .int .i64 0] 50 ?_; intro gb239 hg w5 hbox hb; have BK239 := Aside0.mk hbox; have GW239 := Aside0.mk (s_ hg); have GE239 := GW239; have HB := bs_ hb; clear hb hbox hg; obtain ⟨hcz6_0, hcz6_1, hcz6_2, hcz6_3, hcz6_4, hcz6_5, hfz6_0, hfz6_1, hfz6_2, hfz6_3, hfz6_4, hfz6_5⟩ := c6_ BK239.out))
  go_ret2
  exact ⟨E_, B_⟩
def pool_Class.f (k : Nat) (l0 : List (S50)) (a1 : Int) : Option (ByteArray × Int) := (pool_right.f k l0 a1 3).bind fun bt240 => (if bt240.2.2.2.2.2.2 = 0 then (if 0 ≤ bt240.2.2.2.1 then (if bt240.2.2.2.1 < (l0.length : Int) then (some ((rd_T50 l0 bt240.2.2.2.1).f1, 0)) else (none)) else (none)) else (some ((⟨#[]⟩ : ByteArray), bt240.2.2.2.2.2.2)))
set_option maxHeartbeats 8000000 in
set_option maxRecDepth 100000 in
theorem pool_Class.calls (k : Nat) (A0 : Option Addr) (c0 : Nat) (l0 : List (S50)) (a1 : Int) (r1 : ByteArray) (r2 : Int) (w : World) (hr0 : Kd.C k50 w A0 l0.length l0) (hc0 : l0.length ≤ c0) (h : pool_Class.f k l0 a1 = some (r1, r2)) :
    Calls Tryd.prog 19 #[.slice A0 l0.length c0, .int .i64 a1] w fun e w' => e = .returned (.tuple #[.string r1, .int .i64 r2]) ∧ Below w.heap.size w w' := by
  have hu50 := Tryd.underlying50
  have HR0 := Aside0.mk hr0
  have HC0 := Aside0.mk hc0
  clear hr0 hc0
  have HB := Aside0.mk (Below.refl w.heap.size w)
  have H : ((pool_right.f k l0 a1 3).bind fun bt240 => (if bt240.2.2.2.2.2.2 = 0 then (if 0 ≤ bt240.2.2.2.1 then (if bt240.2.2.2.1 < (l0.length : Int) then (some ((rd_T50 l0 bt240.2.2.2.1).f1, 0)) else (none)) else (none)) else (some ((⟨#[]⟩ : ByteArray), bt240.2.2.2.2.2.2)))) = some (r1, r2) := h
  clear h
  replace H := Option.bind_eq_some_iff.mp H
  obtain ⟨⟨t240, t241, t242, t243, t244, t245, t246⟩, A30, H⟩ := H
  replace H : (if t246 = 0 then (if 0 ≤ t243 then (if t243 < (l0.length : Int) then (some ((rd_T50 l0 t243).f1, 0)) else (none)) else (none)) else (some ((⟨#[]⟩ : ByteArray), t246))) = some (r1, r2) := H
  have A3 := Aside0.mk A30
  clear A30
  by_cases c4 : t246 = 0
  · rw [if_pos c4] at H
    have c4b0 : (t246 == 0) = true := beq_iff_eq.mpr c4
    have c4b1 : (t246 != 0) = false := bne_eq_false_iff_eq.mpr c4
    clear c4
    by_cases c5 : 0 ≤ t243
    · rw [if_pos c5] at H
      have c5b0 : decide (0 ≤ t243) = true := decide_eq_true c5
      clear c5
      by_cases c6 : t243 < (l0.length : Int)
      · rw [if_pos c6] at H
        have c6b0 : decide (t243 < (l0.length : Int)) = true := decide_eq_true c6
        clear c6
        simp only [Option.some.injEq, Prod.mk.injEq] at H
        obtain ⟨rfl, rfl⟩ := H
        go_enter Tryd.func19, Tryd.ntmps19
        go_wp2_with (first | ((with_reducible refine gt_ 41 ?_); refine gd_ 11 Tryd.func41 (pool_right.calls k _ _ l0 a1 3 t240 t241 t242 t243 t244 t245 t246 _ (Y_ HR0.out) HC0.out A3.out) ?_; intro w7 hb; have HB := bs_ hb; (try clear hb); (try clear hb2); (try clear hk); (try clear hi)) | ((with_reducible refine d_ 6 ?_); refine X_ 6 #[.int .i64 0, .string (⟨#[]⟩ : ByteArray), .int .i64 0, .int .i64 0, .int .i64 0, .int .i64 0] 50 ?_; intro gb247 hg w8 hbox hb; have BK247 := Aside0.mk hbox; have GW247 := Aside0.mk (s_ hg); have GE247 := GW247; have HB := bs_ hb; clear hb hbox hg; obtain ⟨hcz9_0, hcz9_1, hcz9_2, hcz9_3, hcz9_4, hcz9_5, hfz9_0, hfz9_1, hfz9_2, hfz9_3, hfz9_4, hfz9_5⟩ := c6_ BK247.out; have p248 : 0 ≤ (t243 : Int) := of_decide_eq_true A_; have q248 : t243 < (l0.length : Int) := of_decide_eq_true A_; obtain ⟨ad248, e248, hx248_0, hx248_1, hx248_2, hx248_3, hx248_4, hx248_5⟩ := at_T50 HR0.out t243 p248 q248; cases e248; have hn248_0 : ad248.block ≠ gb247 := Nat.ne_of_lt (Nat.lt_of_lt_of_le (by have := World.block_lt_of_cell? _ _ hx248_0; first | rwa [add_block] at this | exact this) GW247.out); have hn248_1 : ad248.block ≠ gb247 := Nat.ne_of_lt (Nat.lt_of_lt_of_le (by have := World.block_lt_of_cell? _ _ hx248_0; first | rwa [add_block] at this | exact this) GW247.out); have hn248_2 : ad248.block ≠ gb247 := Nat.ne_of_lt (Nat.lt_of_lt_of_le (by have := World.block_lt_of_cell? _ _ hx248_0; first | rwa [add_block] at this | exact this) GW247.out); have hn248_3 : ad248.block ≠ gb247 := Nat.ne_of_lt (Nat.lt_of_lt_of_le (by have := World.block_lt_of_cell? _ _ hx248_0; first | rwa [add_block] at this | exact this) GW247.out); have hn248_4 : ad248.block ≠ gb247 := Nat.ne_of_lt (Nat.lt_of_lt_of_le (by have := World.block_lt_of_cell? _ _ hx248_0; first | rwa [add_block] at this | exact this) GW247.out); have hn248_5 : ad248.block ≠ gb247 := Nat.ne_of_lt (Nat.lt_of_lt_of_le (by have := World.block_lt_of_cell? _ _ hx248_0; first | rwa [add_block] at this | exact this) GW247.out); replace hx248_0 := h_ HB hx248_0; replace hx248_1 := h_ HB hx248_1; replace hx248_2 := h_ HB hx248_2; replace hx248_3 := h_ HB hx248_3; replace hx248_4 := h_ HB hx248_4; replace hx248_5 := h_ HB hx248_5; replace hx248_0 := (cell_far (p := ⟨gb247, 0, none⟩) (by first | (rw [add_block]; exact hn248_0) | (show (Addr.add _ _).block ≠ _; rw [add_block]; exact hn248_0) | exact hn248_0) (.int .i64 t240)).trans hx248_0; replace hx248_1 := (cell_far (p := ⟨gb247, 0, none⟩) (by first | (rw [add_block]; exact hn248_0) | (show (Addr.add _ _).block ≠ _; rw [add_block]; exact hn248_0) | exact hn248_0) (.int .i64 t240)).trans hx248_1; replace hx248_2 := (cell_far (p := ⟨gb247, 0, none⟩) (by first | (rw [add_block]; exact hn248_0) | (show (Addr.add _ _).block ≠ _; rw [add_block]; exact hn248_0) | exact hn248_0) (.int .i64 t240)).trans hx248_2; replace hx248_3 := (cell_far (p := ⟨gb247, 0, none⟩) (by first | (rw [add_block]; exact hn248_0) | (show (Addr.add _ _).block ≠ _; rw [add_block]; exact hn248_0) | exact hn248_0) (.int .i64 t240)).trans hx248_3; replace hx248_4 := (cell_far (p := ⟨gb247, 0, none⟩) (by first | (rw [add_block]; exact hn248_0) | (show (Addr.add _ _).block ≠ _; rw [add_block]; exact hn248_0) | exact hn248_0) (.int .i64 t240)).trans hx248_4; replace hx248_5 := (cell_far (p := ⟨gb247, 0, none⟩) (by first | (rw [add_block]; exact hn248_0) | (show (Addr.add _ _).block ≠ _; rw [add_block]; exact hn248_0) | exact hn248_0) (.int .i64 t240)).trans hx248_5; replace hx248_0 := (cell_far (p := ⟨gb247, 1, none⟩) (by first | (rw [add_block]; exact hn248_1) | (show (Addr.add _ _).block ≠ _; rw [add_block]; exact hn248_1) | exact hn248_1) (.string t241)).trans hx248_0; replace hx248_1 := (cell_far (p := ⟨gb247, 1, none⟩) (by first | (rw [add_block]; exact hn248_1) | (show (Addr.add _ _).block ≠ _; rw [add_block]; exact hn248_1) | exact hn248_1) (.string t241)).trans hx248_1; replace hx248_2 := (cell_far (p := ⟨gb247, 1, none⟩) (by first | (rw [add_block]; exact hn248_1) | (show (Addr.add _ _).block ≠ _; rw [add_block]; exact hn248_1) | exact hn248_1) (.string t241)).trans hx248_2; replace hx248_3 := (cell_far (p := ⟨gb247, 1, none⟩) (by first | (rw [add_block]; exact hn248_1) | (show (Addr.add _ _).block ≠ _; rw [add_block]; exact hn248_1) | exact hn248_1) (.string t241)).trans hx248_3; replace hx248_4 := (cell_far (p := ⟨gb247, 1, none⟩) (by first | (rw [add_block]; exact hn248_1) | (show (Addr.add _ _).block ≠ _; rw [add_block]; exact hn248_1) | exact hn248_1) (.string t241)).trans hx248_4; replace hx248_5 := (cell_far (p := ⟨gb247, 1, none⟩) (by first | (rw [add_block]; exact hn248_1) | (show (Addr.add _ _).block ≠ _; rw [add_block]; exact hn248_1) | exact hn248_1) (.string t241)).trans hx248_5; replace hx248_0 := (cell_far (p := ⟨gb247, 2, none⟩) (by first | (rw [add_block]; exact hn248_2) | (show (Addr.add _ _).block ≠ _; rw [add_block]; exact hn248_2) | exact hn248_2) (.int .i64 t242)).trans hx248_0; replace hx248_1 := (cell_far (p := ⟨gb247, 2, none⟩) (by first | (rw [add_block]; exact hn248_2) | (show (Addr.add _ _).block ≠ _; rw [add_block]; exact hn248_2) | exact hn248_2) (.int .i64 t242)).trans hx248_1; replace hx248_2 := (cell_far (p := ⟨gb247, 2, none⟩) (by first | (rw [add_block]; exact hn248_2) | (show (Addr.add _ _).block ≠ _; rw [add_block]; exact hn248_2) | exact hn248_2) (.int .i64 t242)).trans hx248_2; replace hx248_3 := (cell_far (p := ⟨gb247, 2, none⟩) (by first | (rw [add_block]; exact hn248_2) | (show (Addr.add _ _).block ≠ _; rw [add_block]; exact hn248_2) | exact hn248_2) (.int .i64 t242)).trans hx248_3; replace hx248_4 := (cell_far (p := ⟨gb247, 2, none⟩) (by first | (rw [add_block]; exact hn248_2) | (show (Addr.add _ _).block ≠ _; rw [add_block]; exact hn248_2) | exact hn248_2) (.int .i64 t242)).trans hx248_4; replace hx248_5 := (cell_far (p := ⟨gb247, 2, none⟩) (by first | (rw [add_block]; exact hn248_2) | (show (Addr.add _ _).block ≠ _; rw [add_block]; exact hn248_2) | exact hn248_2) (.int .i64 t242)).trans hx248_5; replace hx248_0 := (cell_far (p := ⟨gb247, 3, none⟩) (by first | (rw [add_block]; exact hn248_3) | (show (Addr.add _ _).block ≠ _; rw [add_block]; exact hn248_3) | exact hn248_3) (.int .i64 t243)).trans hx248_0; replace hx248_1 := (cell_far (p := ⟨gb247, 3, none⟩) (by first | (rw [add_block]; exact hn248_3) | (show (Addr.add _ _).block ≠ _; rw [add_block]; exact hn248_3) | exact hn248_3) (.int .i64 t243)).trans hx248_1; replace hx248_2 := (cell_far (p := ⟨gb247, 3, none⟩) (by first | (rw [add_block]; exact hn248_3) | (show (Addr.add _ _).block ≠ _; rw [add_block]; exact hn248_3) | exact hn248_3) (.int .i64 t243)).trans hx248_2; replace hx248_3 := (cell_far (p := ⟨gb247, 3, none⟩) (by first | (rw [add_block]; exact hn248_3) | (show (Addr.add _ _).block ≠ _; rw [add_block]; exact hn248_3) | exact hn248_3) (.int .i64 t243)).trans hx248_3; replace hx248_4 := (cell_far (p := ⟨gb247, 3, none⟩) (by first | (rw [add_block]; exact hn248_3) | (show (Addr.add _ _).block ≠ _; rw [add_block]; exact hn248_3) | exact hn248_3) (.int .i64 t243)).trans hx248_4; replace hx248_5 := (cell_far (p := ⟨gb247, 3, none⟩) (by first | (rw [add_block]; exact hn248_3) | (show (Addr.add _ _).block ≠ _; rw [add_block]; exact hn248_3) | exact hn248_3) (.int .i64 t243)).trans hx248_5; replace hx248_0 := (cell_far (p := ⟨gb247, 4, none⟩) (by first | (rw [add_block]; exact hn248_4) | (show (Addr.add _ _).block ≠ _; rw [add_block]; exact hn248_4) | exact hn248_4) (.int .i64 t244)).trans hx248_0; replace hx248_1 := (cell_far (p := ⟨gb247, 4, none⟩) (by first | (rw [add_block]; exact hn248_4) | (show (Addr.add _ _).block ≠ _; rw [add_block]; exact hn248_4) | exact hn248_4) (.int .i64 t244)).trans hx248_1; replace hx248_2 := (cell_far (p := ⟨gb247, 4, none⟩) (by first | (rw [add_block]; exact hn248_4) | (show (Addr.add _ _).block ≠ _; rw [add_block]; exact hn248_4) | exact hn248_4) (.int .i64 t244)).trans hx248_2; replace hx248_3 := (cell_far (p := ⟨gb247, 4, none⟩) (by first | (rw [add_block]; exact hn248_4) | (show (Addr.add _ _).block ≠ _; rw [add_block]; exact hn248_4) | exact hn248_4) (.int .i64 t244)).trans hx248_3; replace hx248_4 := (cell_far (p := ⟨gb247, 4, none⟩) (by first | (rw [add_block]; exact hn248_4) | (show (Addr.add _ _).block ≠ _; rw [add_block]; exact hn248_4) | exact hn248_4) (.int .i64 t244)).trans hx248_4; replace hx248_5 := (cell_far (p := ⟨gb247, 4, none⟩) (by first | (rw [add_block]; exact hn248_4) | (show (Addr.add _ _).block ≠ _; rw [add_block]; exact hn248_4) | exact hn248_4) (.int .i64 t244)).trans hx248_5; replace hx248_0 := (cell_far (p := ⟨gb247, 5, none⟩) (by first | (rw [add_block]; exact hn248_5) | (show (Addr.add _ _).block ≠ _; rw [add_block]; exact hn248_5) | exact hn248_5) (.int .i64 t245)).trans hx248_0; replace hx248_1 := (cell_far (p := ⟨gb247, 5, none⟩) (by first | (rw [add_block]; exact hn248_5) | (show (Addr.add _ _).block ≠ _; rw [add_block]; exact hn248_5) | exact hn248_5) (.int .i64 t245)).trans hx248_1; replace hx248_2 := (cell_far (p := ⟨gb247, 5, none⟩) (by first | (rw [add_block]; exact hn248_5) | (show (Addr.add _ _).block ≠ _; rw [add_block]; exact hn248_5) | exact hn248_5) (.int .i64 t245)).trans hx248_2; replace hx248_3 := (cell_far (p := ⟨gb247, 5, none⟩) (by first | (rw [add_block]; exact hn248_5) | (show (Addr.add _ _).block ≠ _; rw [add_block]; exact hn248_5) | exact hn248_5) (.int .i64 t245)).trans hx248_3; replace hx248_4 := (cell_far (p := ⟨gb247, 5, none⟩) (by first | (rw [add_block]; exact hn248_5) | (show (Addr.add _ _).block ≠ _; rw [add_block]; exact hn248_5) | exact hn248_5) (.int .i64 t245)).trans hx248_4; replace hx248_5 := (cell_far (p := ⟨gb247, 5, none⟩) (by first | (rw [add_block]; exact hn248_5) | (show (Addr.add _ _).block ≠ _; rw [add_block]; exact hn248_5) | exact hn248_5) (.int .i64 t245)).trans hx248_5; clear hn248_0; clear hn248_1; clear hn248_2; clear hn248_3; clear hn248_4; clear hn248_5; replace p248 := eq_true p248; replace q248 := eq_true q248))
        go_ret2
        exact ⟨E_, B_⟩
      · rw [if_neg c6] at H
        exact absurd H (by simp)
    · rw [if_neg c5] at H
      exact absurd H (by simp)
  · rw [if_neg c4] at H
    have c4b0 : (t246 == 0) = false := beq_eq_false_iff_ne.mpr c4
    have c4b1 : (t246 != 0) = true := bne_iff_ne.mpr c4
    simp only [Option.some.injEq, Prod.mk.injEq] at H
    obtain ⟨rfl, rfl⟩ := H
    go_enter Tryd.func19, Tryd.ntmps19
    go_wp2_with (first | ((with_reducible refine gt_ 41 ?_); refine gd_ 11 Tryd.func41 (pool_right.calls k _ _ l0 a1 3 t240 t241 t242 t243 t244 t245 t246 _ (Y_ HR0.out) HC0.out A3.out) ?_; intro w10 hb; have HB := bs_ hb; (try clear hb); (try clear hb2); (try clear hk); (try clear hi)) | ((with_reducible refine d_ 6 ?_); refine X_ 6 #[.int .i64 0, .string (⟨#[]⟩ : ByteArray), .int .i64 0, .int .i64 0, .int .i64 0, .int .i64 0] 50 ?_; intro gb247 hg w11 hbox hb; have BK247 := Aside0.mk hbox; have GW247 := Aside0.mk (s_ hg); have GE247 := GW247; have HB := bs_ hb; clear hb hbox hg; obtain ⟨hcz12_0, hcz12_1, hcz12_2, hcz12_3, hcz12_4, hcz12_5, hfz12_0, hfz12_1, hfz12_2, hfz12_3, hfz12_4, hfz12_5⟩ := c6_ BK247.out))
    go_ret2
    exact ⟨E_, B_⟩
def pool_Field.f (k : Nat) (l0 : List (S50)) (a1 : Int) : Option (ByteArray × ByteArray × Int × ByteArray × Int) := (pool_right.f k l0 a1 5).bind fun bt250 => (if bt250.2.2.2.2.2.2 = 0 then ((pool_Class.f k l0 bt250.2.2.2.1).bind fun bt258 => (if bt258.2 = 0 then (if 0 ≤ bt250.2.2.2.2.2.1 then (if bt250.2.2.2.2.2.1 < (l0.length : Int) then ((desc_Type.f k ((rd_T50 l0 bt250.2.2.2.2.2.1).f1)).bind fun bt261 => (if 0 ≤ bt250.2.2.2.2.1 then (if bt250.2.2.2.2.1 < (l0.length : Int) then (some (bt258.1, (rd_T50 l0 bt250.2.2.2.2.1).f1, bt261.1, bt261.2.1, bt261.2.2)) else (none)) else (none))) else (none)) else (none)) else (some ((⟨#[]⟩ : ByteArray), (⟨#[]⟩ : ByteArray), 0, (⟨#[]⟩ : ByteArray), bt258.2)))) else (some ((⟨#[]⟩ : ByteArray), (⟨#[]⟩ : ByteArray), 0, (⟨#[]⟩ : ByteArray), bt250.2.2.2.2.2.2)))
def pool_Field.T8 : Bool × List (List Nat × List Nat) := (true, [([], []), ([], []), ([], []), ([2], [2]), ([1, 3], [1, 3]), ([4], [4]), ([5], [5]), ([], []), ([], []), ([0, 0], [0]), ([6, 9, 0, 1, 2, 3, 4, 5, 6, 9], [6]), ([7, 10, 0, 1, 2, 3, 4, 5, 6, 7, 9, 10], [7]), ([8, 11, 0, 1, 2, 3, 4, 5, 6, 7, 8, 9, 10, 11], [8])])
def pool_Field.B8 : List Nat := [0, 0, 0, 4, 14, 30, 62, 0, 0, 1, 639, 1791, 4095]
theorem pool_Field.tab8 : rtab .any (opsOf Tryd.f20 8) = pool_Field.T8 := by kernel_rfl
theorem pool_Field.bits8 : waitsOk pool_Field.T8.2 pool_Field.B8 = true := by kernel_rfl
set_option maxHeartbeats 8000000 in
set_option maxRecDepth 100000 in
theorem pool_Field.calls (k : Nat) (A0 : Option Addr) (c0 : Nat) (l0 : List (S50)) (a1 : Int) (r1 : ByteArray) (r2 : ByteArray) (r3 : Int) (r4 : ByteArray) (r5 : Int) (w : World) (hr0 : Kd.C k50 w A0 l0.length l0) (hc0 : l0.length ≤ c0) (h : pool_Field.f k l0 a1 = some (r1, r2, r3, r4, r5)) :
    Calls Tryd.prog 20 #[.slice A0 l0.length c0, .int .i64 a1] w fun e w' => e = .returned (.tuple #[.string r1, .string r2, .agg #[.int .i64 r3, .string r4], .int .i64 r5]) ∧ Below w.heap.size w w' := by
  have hu34 := Tryd.underlying34
  have hu50 := Tryd.underlying50
  have HR0 := Aside0.mk hr0
  have HC0 := Aside0.mk hc0
  clear hr0 hc0
  have HB := Aside0.mk (Below.refl w.heap.size w)
  have H : ((pool_right.f k l0 a1 5).bind fun bt250 => (if bt250.2.2.2.2.2.2 = 0 then ((pool_Class.f k l0 bt250.2.2.2.1).bind fun bt258 => (if bt258.2 = 0 then (if 0 ≤ bt250.2.2.2.2.2.1 then (if bt250.2.2.2.2.2.1 < (l0.length : Int) then ((desc_Type.f k ((rd_T50 l0 bt250.2.2.2.2.2.1).f1)).bind fun bt261 => (if 0 ≤ bt250.2.2.2.2.1 then (if bt250.2.2.2.2.1 < (l0.length : Int) then (some (bt258.1, (rd_T50 l0 bt250.2.2.2.2.1).f1, bt261.1, bt261.2.1, bt261.2.2)) else (none)) else (none))) else (none)) else (none)) else (some ((⟨#[]⟩ : ByteArray), (⟨#[]⟩ : ByteArray), 0, (⟨#[]⟩ : ByteArray), bt258.2)))) else (some ((⟨#[]⟩ : ByteArray), (⟨#[]⟩ : ByteArray), 0, (⟨#[]⟩ : ByteArray), bt250.2.2.2.2.2.2)))) = some (r1, r2, r3, r4, r5) := h
  clear h
  replace H := Option.bind_eq_some_iff.mp H
  obtain ⟨⟨t250, t251, t252, t253, t254, t255, t256⟩, A30, H⟩ := H
  replace H : (if t256 = 0 then ((pool_Class.f k l0 t253).bind fun bt258 => (if bt258.2 = 0 then (if 0 ≤ t255 then (if t255 < (l0.length : Int) then ((desc_Type.f k ((rd_T50 l0 t255).f1)).bind fun bt261 => (if 0 ≤ t254 then (if t254 < (l0.length : Int) then (some (bt258.1, (rd_T50 l0 t254).f1, bt261.1, bt261.2.1, bt261.2.2)) else (none)) else (none))) else (none)) else (none)) else (some ((⟨#[]⟩ : ByteArray), (⟨#[]⟩ : ByteArray), 0, (⟨#[]⟩ : ByteArray), bt258.2)))) else (some ((⟨#[]⟩ : ByteArray), (⟨#[]⟩ : ByteArray), 0, (⟨#[]⟩ : ByteArray), t256))) = some (r1, r2, r3, r4, r5) := H
  have A3 := Aside0.mk A30
  clear A30
  by_cases c4 : t256 = 0
  · rw [if_pos c4] at H
    have c4b0 : (t256 == 0) = true := beq_iff_eq.mpr c4
    have c4b1 : (t256 != 0) = false := bne_eq_false_iff_eq.mpr c4
    clear c4
    replace H := Option.bind_eq_some_iff.mp H
    obtain ⟨⟨t258, t259⟩, A50, H⟩ := H
    replace H : (if t259 = 0 then (if 0 ≤ t255 then (if t255 < (l0.length : Int) then ((desc_Type.f k ((rd_T50 l0 t255).f1)).bind fun bt261 => (if 0 ≤ t254 then (if t254 < (l0.length : Int) then (some (t258, (rd_T50 l0 t254).f1, bt261.1, bt261.2.1, bt261.2.2)) else (none)) else (none))) else (none)) else (none)) else (some ((⟨#[]⟩ : ByteArray), (⟨#[]⟩ : ByteArray), 0, (⟨#[]⟩ : ByteArray), t259))) = some (r1, r2, r3, r4, r5) := H
    have A5 := Aside0.mk A50
    clear A50
    by_cases c6 : t259 = 0
    · rw [if_pos c6] at H
      have c6b0 : (t259 == 0) = true := beq_iff_eq.mpr c6
      have c6b1 : (t259 != 0) = false := bne_eq_false_iff_eq.mpr c6
      clear c6
      by_cases c7 : 0 ≤ t255
      · rw [if_pos c7] at H
        have c7b0 : decide (0 ≤ t255) = true := decide_eq_true c7
        clear c7
        by_cases c8 : t255 < (l0.length : Int)
        · rw [if_pos c8] at H
          have c8b0 : decide (t255 < (l0.length : Int)) = true := decide_eq_true c8
          clear c8
          replace H := Option.bind_eq_some_iff.mp H
          obtain ⟨⟨t261, t262, t263⟩, A90, H⟩ := H
          replace H : (if 0 ≤ t254 then (if t254 < (l0.length : Int) then (some (t258, (rd_T50 l0 t254).f1, t261, t262, t263)) else (none)) else (none)) = some (r1, r2, r3, r4, r5) := H
          have A9 := Aside0.mk A90
          clear A90
          by_cases c10 : 0 ≤ t254
          · rw [if_pos c10] at H
            have c10b0 : decide (0 ≤ t254) = true := decide_eq_true c10
            clear c10
            by_cases c11 : t254 < (l0.length : Int)
            · rw [if_pos c11] at H
              have c11b0 : decide (t254 < (l0.length : Int)) = true := decide_eq_true c11
              clear c11
              simp only [Option.some.injEq, Prod.mk.injEq] at H
              obtain ⟨rfl, rfl, rfl, rfl, rfl⟩ := H
              go_enter Tryd.func20, Tryd.ntmps20
              try go_wp2_with (first | ((with_reducible refine d_ 6 ?_); refine X_ 6 #[.int .i64 0, .string (⟨#[]⟩ : ByteArray)] 34 ?_; intro gb249 hg w12 hbox hb; have BK249 := Aside0.mk hbox; have GW249 := Aside0.mk (s_ hg); have GE249 := GW249; have HB := bs_ hb; clear hb hbox hg) | ((with_reducible refine gt_ 41 ?_); refine gd_ 15 Tryd.func41 (pool_right.calls k _ _ l0 a1 5 t250 t251 t252 t253 t254 t255 t256 _ (Y_ (Kd.C_below HR0.out HB.out)) HC0.out A3.out) ?_; intro w13 hb; have BK249 := kb_ BK249 hb; have HB := bs_ hb; (try clear hb); (try clear hb2); (try clear hk); (try clear hi)) | ((with_reducible refine d_ 8 ?_); refine X_ 8 #[.int .i64 0, .string (⟨#[]⟩ : ByteArray), .int .i64 0, .int .i64 0, .int .i64 0, .int .i64 0] 50 ?_; intro gb257 hg w14 hbox hb; have BK257 := Aside0.mk hbox; have GW257 := Aside0.mk (s_ hg); have GE257 := GW257; have NB249_257 := Aside0.mk (xx_ hg BK249); have BK249 := kb_ BK249 hb; have NB257_249 := Aside0.mk NB249_257.out.symm; have HB := bs_ hb; clear hb hbox hg; have hnb15 := NB257_249.out; have hnc15 := NB249_257.out; obtain ⟨hcz16_0, hcz16_1, hcz16_2, hcz16_3, hcz16_4, hcz16_5, hfz16_0, hfz16_1, hfz16_2, hfz16_3, hfz16_4, hfz16_5⟩ := c6_ BK257.out) | ((with_reducible refine gt_ 19 ?_); refine gd_ 26 Tryd.func19 (pool_Class.calls k _ _ l0 t253 t258 t259 _ (Kd.C_below HR0.out B_) HC0.out A5.out) ?_; intro w17 hb; have BK249 := Aside0.mk (blk_below (g := gb249) (o := .cells #[.int .i64 0, .string (⟨#[]⟩ : ByteArray)] 34 (0, 0)) P_ hb); have BK257 := Aside0.mk (blk_below (g := gb257) (o := .cells #[.int .i64 t250, .string t251, .int .i64 t252, .int .i64 t253, .int .i64 t254, .int .i64 t255] 50 (0, 0)) P_ hb); have HB := bs_ hb; (try clear hb); (try clear hb2); (try clear hk); (try clear hi); obtain ⟨hcz18_0, hcz18_1, hcz18_2, hcz18_3, hcz18_4, hcz18_5, hfz18_0, hfz18_1, hfz18_2, hfz18_3, hfz18_4, hfz18_5⟩ := c6_ BK257.out; have p260 : 0 ≤ (t255 : Int) := of_decide_eq_true A_; have q260 : t255 < (l0.length : Int) := of_decide_eq_true A_; obtain ⟨ad260, e260, hx260_0, hx260_1, hx260_2, hx260_3, hx260_4, hx260_5⟩ := at_T50 HR0.out t255 p260 q260; cases e260; replace hx260_0 := h_ HB hx260_0; replace hx260_1 := h_ HB hx260_1; replace hx260_2 := h_ HB hx260_2; replace hx260_3 := h_ HB hx260_3; replace hx260_4 := h_ HB hx260_4; replace hx260_5 := h_ HB hx260_5; replace p260 := eq_true p260; replace q260 := eq_true q260) | ((with_reducible refine gt_ 42 ?_); refine gd_ 40 Tryd.func42 (desc_Type.calls k ((rd_T50 l0 t255).f1) t261 t262 t263 _ A9.out) ?_; intro w19 hb; have BK249 := kb_ BK249 hb; have BK257 := kb_ BK257 hb; have HB := bs_ hb; (try clear hb); (try clear hb2); (try clear hk); (try clear hi)) | ((with_reducible refine d_ 11 ?_); refine X_ 11 #[.int .i64 0, .string (⟨#[]⟩ : ByteArray)] 34 ?_; intro gb264 hg w20 hbox hb; have BK264 := Aside0.mk hbox; have GW264 := Aside0.mk (s_ hg); have GE264 := GW264; have NB249_264 := Aside0.mk (xx_ hg BK249); have BK249 := kb_ BK249 hb; have NB264_249 := Aside0.mk NB249_264.out.symm; have NB257_264 := Aside0.mk (xx_ hg BK257); have BK257 := kb_ BK257 hb; have NB264_257 := Aside0.mk NB257_264.out.symm; have HB := bs_ hb; clear hb hbox hg; have hnb21 := NB264_249.out; have hnc21 := NB249_264.out; have hnb22 := NB264_257.out; have hnc22 := NB257_264.out; obtain ⟨hcz23_0, hcz23_1, hfz23_0, hfz23_1⟩ := c2_ BK264.out))
              have n0_ : Aside0 (((w20.setCell ⟨gb264, 0, none⟩ (.int .i64 t261)).setCell ⟨gb264, 1, none⟩ (.string t262)).heap[gb249]? = some (.cells #[.int .i64 0, .string (⟨#[]⟩ : ByteArray)] 34 (0, 0))) := ⟨P_⟩
              have n1_ : Aside0 (((w20.setCell ⟨gb264, 0, none⟩ (.int .i64 t261)).setCell ⟨gb264, 1, none⟩ (.string t262)).heap[gb257]? = some (.cells #[.int .i64 t250, .string t251, .int .i64 t252, .int .i64 t253, .int .i64 t254, .int .i64 t255] 50 (0, 0))) := ⟨P_⟩
              have n2_ : Aside0 (((w20.setCell ⟨gb264, 0, none⟩ (.int .i64 t261)).setCell ⟨gb264, 1, none⟩ (.string t262)).heap[gb264]? = some (.cells #[.int .i64 t261, .string t262] 34 (0, 0))) := ⟨P_⟩
              have n3_ : Aside0 (Below w.heap.size w ((w20.setCell ⟨gb264, 0, none⟩ (.int .i64 t261)).setCell ⟨gb264, 1, none⟩ (.string t262))) := ⟨B_⟩
              (try clear BK249)
              (try clear BK257)
              (try clear BK264)
              (try clear HB)
              generalize ((w20.setCell ⟨gb264, 0, none⟩ (.int .i64 t261)).setCell ⟨gb264, 1, none⟩ (.string t262)) = w24 at n0_ n1_ n2_ n3_ ⊢
              have BK249 := n0_
              have BK257 := n1_
              have BK264 := n2_
              have HB := n3_
              clear n0_ n1_ n2_ n3_
              have n0_ := Aside0.mk (blk_drew BK249.out)
              have n1_ := Aside0.mk (blk_drew BK257.out)
              have n2_ := Aside0.mk (blk_drew BK264.out)
              have n3_ := Aside0.mk (below_drew1 HB.out)
              clear BK249
              clear BK257
              clear BK264
              clear HB
              have BK249 := n0_
              have BK257 := n1_
              have BK264 := n2_
              have HB := n3_
              clear n0_ n1_ n2_ n3_
              have p265 : 0 ≤ (t254 : Int) := of_decide_eq_true A_
              have q265 : t254 < (l0.length : Int) := of_decide_eq_true A_
              obtain ⟨ad265, e265, hx265_0, hx265_1, hx265_2, hx265_3, hx265_4, hx265_5⟩ := at_T50 HR0.out t254 p265 q265
              have hw265_5 := hx265_5
              have hw265_4 := hx265_4
              have hw265_3 := hx265_3
              have hw265_2 := hx265_2
              have hw265_1 := hx265_1
              have hw265_0 := hx265_0
              obtain rfl : ad260 = ad265 := (by injection e265)
              replace hx265_0 := h_ HB hx265_0
              replace hx265_1 := h_ HB hx265_1
              replace hx265_2 := h_ HB hx265_2
              replace hx265_3 := h_ HB hx265_3
              replace hx265_4 := h_ HB hx265_4
              replace hx265_5 := h_ HB hx265_5
              replace p265 := eq_true p265
              replace q265 := eq_true q265
              refine start_ (n := 13) (S := fun w' => w'.cell? ⟨gb257, 0, none⟩ = some (.int .i64 t250) ∧ w'.cell? ⟨gb257, 1, none⟩ = some (.string t251) ∧ w'.cell? ⟨gb257, 2, none⟩ = some (.int .i64 t252) ∧ w'.cell? ⟨gb257, 3, none⟩ = some (.int .i64 t253) ∧ w'.cell? ⟨gb257, 4, none⟩ = some (.int .i64 t254) ∧ w'.cell? ⟨gb257, 5, none⟩ = some (.int .i64 t255) ∧ w'.cell? ⟨gb264, 0, none⟩ = some (.int .i64 t261) ∧ w'.cell? ⟨gb264, 1, none⟩ = some (.string t262) ∧ w'.cell? (ad260.add ((t254).toNat * 6)) = some (.int .i64 ((rd_T50 l0 t254).f0)) ∧ w'.cell? ⟨(ad260.add ((t254).toNat * 6)).block, (ad260.add ((t254).toNat * 6)).off + 1, none⟩ = some (.string ((rd_T50 l0 t254).f1)) ∧ w'.cell? ⟨(ad260.add ((t254).toNat * 6)).block, (ad260.add ((t254).toNat * 6)).off + 2, none⟩ = some (.int .i64 ((rd_T50 l0 t254).f2)) ∧ w'.cell? ⟨(ad260.add ((t254).toNat * 6)).block, (ad260.add ((t254).toNat * 6)).off + 3, none⟩ = some (.int .i64 ((rd_T50 l0 t254).f3)) ∧ w'.cell? ⟨(ad260.add ((t254).toNat * 6)).block, (ad260.add ((t254).toNat * 6)).off + 4, none⟩ = some (.int .i64 ((rd_T50 l0 t254).f4)) ∧ w'.cell? ⟨(ad260.add ((t254).toNat * 6)).block, (ad260.add ((t254).toNat * 6)).off + 5, none⟩ = some (.int .i64 ((rd_T50 l0 t254).f5))) (ds := []) #[false, false, false, false, false, false, false, false, false, false, false, false, false] (by kernel_rfl) rfl rfl ⟨(blk_cell BK257.out 0).trans rfl, (blk_cell BK257.out 1).trans rfl, (blk_cell BK257.out 2).trans rfl, (blk_cell BK257.out 3).trans rfl, (blk_cell BK257.out 4).trans rfl, (blk_cell BK257.out 5).trans rfl, (blk_cell BK264.out 0).trans rfl, (blk_cell BK264.out 1).trans rfl, ((HB.out.cell (World.block_lt_of_cell? w _ hw265_0)).trans hw265_0), ((HB.out.cell (World.block_lt_of_cell? w _ hw265_1)).trans hw265_1), ((HB.out.cell (World.block_lt_of_cell? w _ hw265_2)).trans hw265_2), ((HB.out.cell (World.block_lt_of_cell? w _ hw265_3)).trans hw265_3), ((HB.out.cell (World.block_lt_of_cell? w _ hw265_4)).trans hw265_4), ((HB.out.cell (World.block_lt_of_cell? w _ hw265_5)).trans hw265_5)⟩ (fun hHeld => ?_); refine with_tabW pool_Field.tab8 pool_Field.bits8 (fun HT_ HW_ => ?_)
              generalize w24.drew = w25 at BK249 BK257 BK264 HB hx265_0 hx265_1 hx265_2 hx265_3 hx265_4 hx265_5 hHeld ⊢
              refine u_ 0 43 (bb 13 1) ?_
              refine u_ 1 44 (bb 13 3) ?_
              refine u_ 2 45 (bb 13 7) ?_
              refine u_ 8 51 (bb 13 263) ?_
              refine u_ 9 4 (bb 13 775) ?_
              refine t_ 3 46 (bb 13 783) ?_
              refine u_ 4 47 (bb 13 799) ?_
              refine u_ 5 48 (bb 13 831) ?_
              refine t_ 6 49 (bb 13 895) ?_
              refine u_ 10 5 (bb 13 1919) ?_
              refine t_ 7 50 (bb 13 2047) ?_
              refine one_ (i := 11) (N := none) #[true, true, true, true, true, true, true, true, true, true, true, true, false] rfl rfl (one_of HT_.out (by kernel_rfl)) (by decide) (fun K hK => ?_)
              have hs26 : w25.cell? ⟨gb249, 0, none⟩ = some (.int .i64 0) := (blk_cell BK249.out 0).trans rfl
              have hfs26 := blk_frozen BK249.out 0
              have hns26_1 := NB257_249.out
              have hns26_2 := NB264_249.out
              have hms26_1 := NB249_257.out
              have hms26_2 := NB249_264.out
              have hs27 : w25.cell? ⟨gb249, 1, none⟩ = some (.string (⟨#[]⟩ : ByteArray)) := (blk_cell BK249.out 1).trans rfl
              have hfs27 := blk_frozen BK249.out 1
              have hns27_1 := NB257_249.out
              have hns27_2 := NB264_249.out
              have hms27_1 := NB249_257.out
              have hms27_2 := NB249_264.out
              refine skip_ (w1 := ?_) (by rfl) rfl ?_ ?_
              rotate_left
              · go_simp
                rfl
              refine hK.out _ _ (S_ hHeld) (fun hHeld => ?_)
              clear hK K
              refine u_ 12 7 (bb 13 8191) ?_
              refine done_ (done_of HT_.out (by kernel_rfl)) ?_
              try go_wp2
              refine bodyPost_ret (results_list (rs := [.tmp 4, .tmp 5, .cell 6 34, .tmp 7]) rfl (by simp) (.tmp (.tmp (.cell gb249 34 #[.int .i64 t261, .string t262] (0, 0) _ rfl P_ Tryd.underlying34 rfl (by kernel_rfl) (.tmp .nil))))) rfl ?_
              exact ⟨E_, B_⟩
            · rw [if_neg c11] at H
              exact absurd H (by simp)
          · rw [if_neg c10] at H
            exact absurd H (by simp)
        · rw [if_neg c8] at H
          exact absurd H (by simp)
      · rw [if_neg c7] at H
        exact absurd H (by simp)
    · rw [if_neg c6] at H
      have c6b0 : (t259 == 0) = false := beq_eq_false_iff_ne.mpr c6
      have c6b1 : (t259 != 0) = true := bne_iff_ne.mpr c6
      simp only [Option.some.injEq, Prod.mk.injEq] at H
      obtain ⟨rfl, rfl, rfl, rfl, rfl⟩ := H
      go_enter Tryd.func20, Tryd.ntmps20
      go_wp2_with (first | ((with_reducible refine d_ 6 ?_); refine X_ 6 #[.int .i64 0, .string (⟨#[]⟩ : ByteArray)] 34 ?_; intro gb249 hg w28 hbox hb; have BK249 := Aside0.mk hbox; have GW249 := Aside0.mk (s_ hg); have GE249 := GW249; have HB := bs_ hb; clear hb hbox hg) | ((with_reducible refine gt_ 41 ?_); refine gd_ 15 Tryd.func41 (pool_right.calls k _ _ l0 a1 5 t250 t251 t252 t253 t254 t255 t256 _ (Y_ (Kd.C_below HR0.out HB.out)) HC0.out A3.out) ?_; intro w29 hb; have BK249 := kb_ BK249 hb; have HB := bs_ hb; (try clear hb); (try clear hb2); (try clear hk); (try clear hi)) | ((with_reducible refine d_ 8 ?_); refine X_ 8 #[.int .i64 0, .string (⟨#[]⟩ : ByteArray), .int .i64 0, .int .i64 0, .int .i64 0, .int .i64 0] 50 ?_; intro gb257 hg w30 hbox hb; have BK257 := Aside0.mk hbox; have GW257 := Aside0.mk (s_ hg); have GE257 := GW257; have NB249_257 := Aside0.mk (xx_ hg BK249); have BK249 := kb_ BK249 hb; have NB257_249 := Aside0.mk NB249_257.out.symm; have HB := bs_ hb; clear hb hbox hg; have hnb31 := NB257_249.out; have hnc31 := NB249_257.out; obtain ⟨hcz32_0, hcz32_1, hcz32_2, hcz32_3, hcz32_4, hcz32_5, hfz32_0, hfz32_1, hfz32_2, hfz32_3, hfz32_4, hfz32_5⟩ := c6_ BK257.out) | ((with_reducible refine gt_ 19 ?_); refine gd_ 26 Tryd.func19 (pool_Class.calls k _ _ l0 t253 t258 t259 _ (Kd.C_below HR0.out B_) HC0.out A5.out) ?_; intro w33 hb; have BK249 := Aside0.mk (blk_below (g := gb249) (o := .cells #[.int .i64 0, .string (⟨#[]⟩ : ByteArray)] 34 (0, 0)) P_ hb); have BK257 := Aside0.mk (blk_below (g := gb257) (o := .cells #[.int .i64 t250, .string t251, .int .i64 t252, .int .i64 t253, .int .i64 t254, .int .i64 t255] 50 (0, 0)) P_ hb); have HB := bs_ hb; (try clear hb); (try clear hb2); (try clear hk); (try clear hi); obtain ⟨hcz34_0, hcz34_1, hfz34_0, hfz34_1⟩ := c2_ BK249.out))
      refine bodyPost_ret (results_list (rs := [.tmp 4, .tmp 5, .cell 6 34, .tmp 7]) rfl (by simp) (.tmp (.tmp (.cell gb249 34 #[.int .i64 0, .string (⟨#[]⟩ : ByteArray)] (0, 0) _ rfl P_ Tryd.underlying34 rfl (by kernel_rfl) (.tmp .nil))))) rfl ?_
      exact ⟨E_, B_⟩
  · rw [if_neg c4] at H
    have c4b0 : (t256 == 0) = false := beq_eq_false_iff_ne.mpr c4
    have c4b1 : (t256 != 0) = true := bne_iff_ne.mpr c4
    simp only [Option.some.injEq, Prod.mk.injEq] at H
    obtain ⟨rfl, rfl, rfl, rfl, rfl⟩ := H
    go_enter Tryd.func20, Tryd.ntmps20
    go_wp2_with (first | ((with_reducible refine d_ 6 ?_); refine X_ 6 #[.int .i64 0, .string (⟨#[]⟩ : ByteArray)] 34 ?_; intro gb249 hg w35 hbox hb; have BK249 := Aside0.mk hbox; have GW249 := Aside0.mk (s_ hg); have GE249 := GW249; have HB := bs_ hb; clear hb hbox hg) | ((with_reducible refine gt_ 41 ?_); refine gd_ 15 Tryd.func41 (pool_right.calls k _ _ l0 a1 5 t250 t251 t252 t253 t254 t255 t256 _ (Y_ (Kd.C_below HR0.out HB.out)) HC0.out A3.out) ?_; intro w36 hb; have BK249 := kb_ BK249 hb; have HB := bs_ hb; (try clear hb); (try clear hb2); (try clear hk); (try clear hi)) | ((with_reducible refine d_ 8 ?_); refine X_ 8 #[.int .i64 0, .string (⟨#[]⟩ : ByteArray), .int .i64 0, .int .i64 0, .int .i64 0, .int .i64 0] 50 ?_; intro gb257 hg w37 hbox hb; have BK257 := Aside0.mk hbox; have GW257 := Aside0.mk (s_ hg); have GE257 := GW257; have NB249_257 := Aside0.mk (xx_ hg BK249); have BK249 := kb_ BK249 hb; have NB257_249 := Aside0.mk NB249_257.out.symm; have HB := bs_ hb; clear hb hbox hg; have hnb38 := NB257_249.out; have hnc38 := NB249_257.out; obtain ⟨hcz39_0, hcz39_1, hcz39_2, hcz39_3, hcz39_4, hcz39_5, hfz39_0, hfz39_1, hfz39_2, hfz39_3, hfz39_4, hfz39_5⟩ := c6_ BK257.out; obtain ⟨hcz40_0, hcz40_1, hfz40_0, hfz40_1⟩ := c2_ BK249.out))
    refine bodyPost_ret (results_list (rs := [.tmp 4, .tmp 5, .cell 6 34, .tmp 7]) rfl (by simp) (.tmp (.tmp (.cell gb249 34 #[.int .i64 0, .string (⟨#[]⟩ : ByteArray)] (0, 0) _ rfl P_ Tryd.underlying34 rfl (by kernel_rfl) (.tmp .nil))))) rfl ?_
    exact ⟨E_, B_⟩
def pool_Method.f (k : Nat) (l0 : List (S50)) (a1 : Int) : Option (ByteArray × ByteArray × (List (S34)) × Bool × Int × ByteArray × Int) := (pool_right.f k l0 a1 6).bind fun bt267 => (if bt267.2.2.2.2.2.2 = 0 then ((pool_Class.f k l0 bt267.2.2.2.1).bind fun bt275 => (if bt275.2 = 0 then (if 0 ≤ bt267.2.2.2.2.2.1 then (if bt267.2.2.2.2.2.1 < (l0.length : Int) then ((desc_Sig.f k ((rd_T50 l0 bt267.2.2.2.2.2.1).f1)).bind fun bt278 => (if 0 ≤ bt267.2.2.2.2.1 then (if bt267.2.2.2.2.1 < (l0.length : Int) then (some (bt275.1, (rd_T50 l0 bt267.2.2.2.2.1).f1, bt278.1, bt278.2.1, bt278.2.2.1, bt278.2.2.2.1, bt278.2.2.2.2)) else (none)) else (none))) else (none)) else (none)) else (some ((⟨#[]⟩ : ByteArray), (⟨#[]⟩ : ByteArray), ([] : List (S34)), false, 0, (⟨#[]⟩ : ByteArray), bt275.2)))) else (some ((⟨#[]⟩ : ByteArray), (⟨#[]⟩ : ByteArray), ([] : List (S34)), false, 0, (⟨#[]⟩ : ByteArray), bt267.2.2.2.2.2.2)))
def pool_Method.T8 : Bool × List (List Nat × List Nat) := (true, [([], []), ([], []), ([], []), ([2], [2]), ([1, 3], [1, 3]), ([4], [4]), ([5], [5]), ([], []), ([], []), ([0, 0], [0]), ([6, 9, 0, 1, 2, 3, 4, 5, 6, 9], [6]), ([7, 10, 0, 1, 2, 3, 4, 5, 6, 7, 9, 10], [7]), ([8, 11, 0, 1, 2, 3, 4, 5, 6, 7, 8, 9, 10, 11], [8])])
def pool_Method.B8 : List Nat := [0, 0, 0, 4, 14, 30, 62, 0, 0, 1, 639, 1791, 4095]
theorem pool_Method.tab8 : rtab .any (opsOf Tryd.f21 8) = pool_Method.T8 := by kernel_rfl
theorem pool_Method.bits8 : waitsOk pool_Method.T8.2 pool_Method.B8 = true := by kernel_rfl
set_option maxHeartbeats 8000000 in
set_option maxRecDepth 100000 in
theorem pool_Method.calls (k : Nat) (A0 : Option Addr) (c0 : Nat) (l0 : List (S50)) (a1 : Int) (r1 : ByteArray) (r2 : ByteArray) (r3 : List (S34)) (r4 : Bool) (r5 : Int) (r6 : ByteArray) (r7 : Int) (w : World) (hr0 : Kd.C k50 w A0 l0.length l0) (hc0 : l0.length ≤ c0) (h : pool_Method.f k l0 a1 = some (r1, r2, r3, r4, r5, r6, r7)) :
    Calls Tryd.prog 21 #[.slice A0 l0.length c0, .int .i64 a1] w fun e w' => ∃ v2_ : Value, e = .returned (.tuple #[.string r1, .string r2, .agg #[v2_, .bool r4, .int .i64 r5, .string r6], .int .i64 r7]) ∧ Kd.R k34 34 w' w.heap.size (fun _ => True) v2_ r3 ∧ Below w.heap.size w w' := by
  have hu39 := Tryd.underlying39
  have hu50 := Tryd.underlying50
  have HR0 := Aside0.mk hr0
  have HC0 := Aside0.mk hc0
  clear hr0 hc0
  have HB := Aside0.mk (Below.refl w.heap.size w)
  have H : ((pool_right.f k l0 a1 6).bind fun bt267 => (if bt267.2.2.2.2.2.2 = 0 then ((pool_Class.f k l0 bt267.2.2.2.1).bind fun bt275 => (if bt275.2 = 0 then (if 0 ≤ bt267.2.2.2.2.2.1 then (if bt267.2.2.2.2.2.1 < (l0.length : Int) then ((desc_Sig.f k ((rd_T50 l0 bt267.2.2.2.2.2.1).f1)).bind fun bt278 => (if 0 ≤ bt267.2.2.2.2.1 then (if bt267.2.2.2.2.1 < (l0.length : Int) then (some (bt275.1, (rd_T50 l0 bt267.2.2.2.2.1).f1, bt278.1, bt278.2.1, bt278.2.2.1, bt278.2.2.2.1, bt278.2.2.2.2)) else (none)) else (none))) else (none)) else (none)) else (some ((⟨#[]⟩ : ByteArray), (⟨#[]⟩ : ByteArray), ([] : List (S34)), false, 0, (⟨#[]⟩ : ByteArray), bt275.2)))) else (some ((⟨#[]⟩ : ByteArray), (⟨#[]⟩ : ByteArray), ([] : List (S34)), false, 0, (⟨#[]⟩ : ByteArray), bt267.2.2.2.2.2.2)))) = some (r1, r2, r3, r4, r5, r6, r7) := h
  clear h
  replace H := Option.bind_eq_some_iff.mp H
  obtain ⟨⟨t267, t268, t269, t270, t271, t272, t273⟩, A30, H⟩ := H
  replace H : (if t273 = 0 then ((pool_Class.f k l0 t270).bind fun bt275 => (if bt275.2 = 0 then (if 0 ≤ t272 then (if t272 < (l0.length : Int) then ((desc_Sig.f k ((rd_T50 l0 t272).f1)).bind fun bt278 => (if 0 ≤ t271 then (if t271 < (l0.length : Int) then (some (bt275.1, (rd_T50 l0 t271).f1, bt278.1, bt278.2.1, bt278.2.2.1, bt278.2.2.2.1, bt278.2.2.2.2)) else (none)) else (none))) else (none)) else (none)) else (some ((⟨#[]⟩ : ByteArray), (⟨#[]⟩ : ByteArray), ([] : List (S34)), false, 0, (⟨#[]⟩ : ByteArray), bt275.2)))) else (some ((⟨#[]⟩ : ByteArray), (⟨#[]⟩ : ByteArray), ([] : List (S34)), false, 0, (⟨#[]⟩ : ByteArray), t273))) = some (r1, r2, r3, r4, r5, r6, r7) := H
  have A3 := Aside0.mk A30
  clear A30
  by_cases c4 : t273 = 0
  · rw [if_pos c4] at H
    have c4b0 : (t273 == 0) = true := beq_iff_eq.mpr c4
    have c4b1 : (t273 != 0) = false := bne_eq_false_iff_eq.mpr c4
    clear c4
    replace H := Option.bind_eq_some_iff.mp H
    obtain ⟨⟨t275, t276⟩, A50, H⟩ := H
    replace H : (if t276 = 0 then (if 0 ≤ t272 then (if t272 < (l0.length : Int) then ((desc_Sig.f k ((rd_T50 l0 t272).f1)).bind fun bt278 => (if 0 ≤ t271 then (if t271 < (l0.length : Int) then (some (t275, (rd_T50 l0 t271).f1, bt278.1, bt278.2.1, bt278.2.2.1, bt278.2.2.2.1, bt278.2.2.2.2)) else (none)) else (none))) else (none)) else (none)) else (some ((⟨#[]⟩ : ByteArray), (⟨#[]⟩ : ByteArray), ([] : List (S34)), false, 0, (⟨#[]⟩ : ByteArray), t276))) = some (r1, r2, r3, r4, r5, r6, r7) := H
    have A5 := Aside0.mk A50
    clear A50
    by_cases c6 : t276 = 0
    · rw [if_pos c6] at H
      have c6b0 : (t276 == 0) = true := beq_iff_eq.mpr c6
      have c6b1 : (t276 != 0) = false := bne_eq_false_iff_eq.mpr c6
      clear c6
      by_cases c7 : 0 ≤ t272
      · rw [if_pos c7] at H
        have c7b0 : decide (0 ≤ t272) = true := decide_eq_true c7
        clear c7
        by_cases c8 : t272 < (l0.length : Int)
        · rw [if_pos c8] at H
          have c8b0 : decide (t272 < (l0.length : Int)) = true := decide_eq_true c8
          clear c8
          replace H := Option.bind_eq_some_iff.mp H
          obtain ⟨⟨t278, t281, t282, t283, t284⟩, A90, H⟩ := H
          replace H : (if 0 ≤ t271 then (if t271 < (l0.length : Int) then (some (t275, (rd_T50 l0 t271).f1, t278, t281, t282, t283, t284)) else (none)) else (none)) = some (r1, r2, r3, r4, r5, r6, r7) := H
          have A9 := Aside0.mk A90
          clear A90
          by_cases c10 : 0 ≤ t271
          · rw [if_pos c10] at H
            have c10b0 : decide (0 ≤ t271) = true := decide_eq_true c10
            clear c10
            by_cases c11 : t271 < (l0.length : Int)
            · rw [if_pos c11] at H
              have c11b0 : decide (t271 < (l0.length : Int)) = true := decide_eq_true c11
              clear c11
              simp only [Option.some.injEq, Prod.mk.injEq] at H
              obtain ⟨rfl, rfl, rfl, rfl, rfl, rfl, rfl⟩ := H
              go_enter Tryd.func21, Tryd.ntmps21
              try go_wp2_with (first | ((with_reducible refine d_ 6 ?_); refine X_ 6 #[.slice none 0 0, .bool false, .int .i64 0, .string (⟨#[]⟩ : ByteArray)] 39 ?_; intro gb266 hg w12 hbox hb; have BK266 := Aside0.mk hbox; have GW266 := Aside0.mk (s_ hg); have GE266 := GW266; have HB := bs_ hb; clear hb hbox hg) | ((with_reducible refine gt_ 41 ?_); refine gd_ 15 Tryd.func41 (pool_right.calls k _ _ l0 a1 6 t267 t268 t269 t270 t271 t272 t273 _ (Y_ (Kd.C_below HR0.out HB.out)) HC0.out A3.out) ?_; intro w13 hb; have BK266 := kb_ BK266 hb; have HB := bs_ hb; (try clear hb); (try clear hb2); (try clear hk); (try clear hi)) | ((with_reducible refine d_ 8 ?_); refine X_ 8 #[.int .i64 0, .string (⟨#[]⟩ : ByteArray), .int .i64 0, .int .i64 0, .int .i64 0, .int .i64 0] 50 ?_; intro gb274 hg w14 hbox hb; have BK274 := Aside0.mk hbox; have GW274 := Aside0.mk (s_ hg); have GE274 := GW274; have NB266_274 := Aside0.mk (xx_ hg BK266); have BK266 := kb_ BK266 hb; have NB274_266 := Aside0.mk NB266_274.out.symm; have HB := bs_ hb; clear hb hbox hg; have hnb15 := NB274_266.out; have hnc15 := NB266_274.out; obtain ⟨hcz16_0, hcz16_1, hcz16_2, hcz16_3, hcz16_4, hcz16_5, hfz16_0, hfz16_1, hfz16_2, hfz16_3, hfz16_4, hfz16_5⟩ := c6_ BK274.out) | ((with_reducible refine gt_ 19 ?_); refine gd_ 26 Tryd.func19 (pool_Class.calls k _ _ l0 t270 t275 t276 _ (Kd.C_below HR0.out B_) HC0.out A5.out) ?_; intro w17 hb; have BK266 := Aside0.mk (blk_below (g := gb266) (o := .cells #[.slice none 0 0, .bool false, .int .i64 0, .string (⟨#[]⟩ : ByteArray)] 39 (0, 0)) P_ hb); have BK274 := Aside0.mk (blk_below (g := gb274) (o := .cells #[.int .i64 t267, .string t268, .int .i64 t269, .int .i64 t270, .int .i64 t271, .int .i64 t272] 50 (0, 0)) P_ hb); have HB := bs_ hb; (try clear hb); (try clear hb2); (try clear hk); (try clear hi); obtain ⟨hcz18_0, hcz18_1, hcz18_2, hcz18_3, hcz18_4, hcz18_5, hfz18_0, hfz18_1, hfz18_2, hfz18_3, hfz18_4, hfz18_5⟩ := c6_ BK274.out; have p277 : 0 ≤ (t272 : Int) := of_decide_eq_true A_; have q277 : t272 < (l0.length : Int) := of_decide_eq_true A_; obtain ⟨ad277, e277, hx277_0, hx277_1, hx277_2, hx277_3, hx277_4, hx277_5⟩ := at_T50 HR0.out t272 p277 q277; cases e277; replace hx277_0 := h_ HB hx277_0; replace hx277_1 := h_ HB hx277_1; replace hx277_2 := h_ HB hx277_2; replace hx277_3 := h_ HB hx277_3; replace hx277_4 := h_ HB hx277_4; replace hx277_5 := h_ HB hx277_5; replace p277 := eq_true p277; replace q277 := eq_true q277) | ((with_reducible refine gt_ 43 ?_); refine gc_ 40 Tryd.func43 #[.string ((rd_T50 l0 t272).f1)] ?_; (with_reducible refine (desc_Sig.calls k ((rd_T50 l0 t272).f1) t278 t281 t282 t283 t284 _ A9.out).mono ?_); rintro e w19 ⟨v279, rfl, ho0, hb⟩; refine ⟨_, rfl, ?_⟩; have HO280 := Aside0.mk (Kd.R_lower ho0 (below_size B_)); have BK266 := kb_ BK266 hb; have BK274 := kb_ BK274 hb; have HB := bs_ hb; (try clear hb); (try clear hb2); (try clear hk); (try clear hi); (try clear ho0)) | ((with_reducible refine d_ 11 ?_); refine X_ 11 #[.slice none 0 0, .bool false, .int .i64 0, .string (⟨#[]⟩ : ByteArray)] 39 ?_; intro gb285 hg w20 hbox hb; have HO280 := rb_ HO280 hb; have BK285 := Aside0.mk hbox; have GW285 := Aside0.mk (s_ hg); have GE285 := GW285; have NB266_285 := Aside0.mk (xx_ hg BK266); have BK266 := kb_ BK266 hb; have NB285_266 := Aside0.mk NB266_285.out.symm; have NB274_285 := Aside0.mk (xx_ hg BK274); have BK274 := kb_ BK274 hb; have NB285_274 := Aside0.mk NB274_285.out.symm; have HB := bs_ hb; clear hb hbox hg; obtain ⟨Ao21, co21, eo21⟩ := Kd.R_slice HO280.out; subst eo21; have hnb22 := NB285_266.out; have hnc22 := NB266_285.out; have hnb23 := NB285_274.out; have hnc23 := NB274_285.out; obtain ⟨hcz24_0, hcz24_1, hcz24_2, hcz24_3, hfz24_0, hfz24_1, hfz24_2, hfz24_3⟩ := c4_ BK285.out))
              have n0_ : Aside0 (Kd.R k34 34 ((((w20.setCell ⟨gb285, 0, none⟩ (.slice Ao21 t278.length co21)).setCell ⟨gb285, 1, none⟩ (.bool t281)).setCell ⟨gb285, 2, none⟩ (.int .i64 t282)).setCell ⟨gb285, 3, none⟩ (.string t283)) w.heap.size (fun _ => True) (.slice Ao21 t278.length co21) t278) := ⟨by (with_reducible repeat (first | apply Kd.R_alloc | apply Kd.R_drewN | apply Kd.R_drew)); exact Kd.R_mono (Kd.R_far (p := ⟨gb285, 3, none⟩) (Kd.R_far (p := ⟨gb285, 2, none⟩) (Kd.R_far (p := ⟨gb285, 1, none⟩) (Kd.R_far (p := ⟨gb285, 0, none⟩) (Kd.R_types HO280.out BK285.out (by decide)) (fun _ hk => hk.2) (.slice Ao21 t278.length co21)) (fun _ hk => hk.2) (.bool t281)) (fun _ hk => hk.2) (.int .i64 t282)) (fun _ hk => hk.2) (.string t283)) (fun _ hk => trivial)⟩
              have n1_ : Aside0 (((((w20.setCell ⟨gb285, 0, none⟩ (.slice Ao21 t278.length co21)).setCell ⟨gb285, 1, none⟩ (.bool t281)).setCell ⟨gb285, 2, none⟩ (.int .i64 t282)).setCell ⟨gb285, 3, none⟩ (.string t283)).heap[gb266]? = some (.cells #[.slice none 0 0, .bool false, .int .i64 0, .string (⟨#[]⟩ : ByteArray)] 39 (0, 0))) := ⟨P_⟩
              have n2_ : Aside0 (((((w20.setCell ⟨gb285, 0, none⟩ (.slice Ao21 t278.length co21)).setCell ⟨gb285, 1, none⟩ (.bool t281)).setCell ⟨gb285, 2, none⟩ (.int .i64 t282)).setCell ⟨gb285, 3, none⟩ (.string t283)).heap[gb274]? = some (.cells #[.int .i64 t267, .string t268, .int .i64 t269, .int .i64 t270, .int .i64 t271, .int .i64 t272] 50 (0, 0))) := ⟨P_⟩
              have n3_ : Aside0 (((((w20.setCell ⟨gb285, 0, none⟩ (.slice Ao21 t278.length co21)).setCell ⟨gb285, 1, none⟩ (.bool t281)).setCell ⟨gb285, 2, none⟩ (.int .i64 t282)).setCell ⟨gb285, 3, none⟩ (.string t283)).heap[gb285]? = some (.cells #[.slice Ao21 t278.length co21, .bool t281, .int .i64 t282, .string t283] 39 (0, 0))) := ⟨P_⟩
              have n4_ : Aside0 (Below w.heap.size w ((((w20.setCell ⟨gb285, 0, none⟩ (.slice Ao21 t278.length co21)).setCell ⟨gb285, 1, none⟩ (.bool t281)).setCell ⟨gb285, 2, none⟩ (.int .i64 t282)).setCell ⟨gb285, 3, none⟩ (.string t283))) := ⟨B_⟩
              (try clear HO280)
              (try clear BK266)
              (try clear BK274)
              (try clear BK285)
              (try clear HB)
              generalize ((((w20.setCell ⟨gb285, 0, none⟩ (.slice Ao21 t278.length co21)).setCell ⟨gb285, 1, none⟩ (.bool t281)).setCell ⟨gb285, 2, none⟩ (.int .i64 t282)).setCell ⟨gb285, 3, none⟩ (.string t283)) = w25 at n0_ n1_ n2_ n3_ n4_ ⊢
              have HO280 := n0_
              have BK266 := n1_
              have BK274 := n2_
              have BK285 := n3_
              have HB := n4_
              clear n0_ n1_ n2_ n3_ n4_
              have n0_ := Aside0.mk (Kd.R_drew HO280.out)
              have n1_ := Aside0.mk (blk_drew BK266.out)
              have n2_ := Aside0.mk (blk_drew BK274.out)
              have n3_ := Aside0.mk (blk_drew BK285.out)
              have n4_ := Aside0.mk (below_drew1 HB.out)
              clear HO280
              clear BK266
              clear BK274
              clear BK285
              clear HB
              have HO280 := n0_
              have BK266 := n1_
              have BK274 := n2_
              have BK285 := n3_
              have HB := n4_
              clear n0_ n1_ n2_ n3_ n4_
              have p286 : 0 ≤ (t271 : Int) := of_decide_eq_true A_
              have q286 : t271 < (l0.length : Int) := of_decide_eq_true A_
              obtain ⟨ad286, e286, hx286_0, hx286_1, hx286_2, hx286_3, hx286_4, hx286_5⟩ := at_T50 HR0.out t271 p286 q286
              have hw286_5 := hx286_5
              have hw286_4 := hx286_4
              have hw286_3 := hx286_3
              have hw286_2 := hx286_2
              have hw286_1 := hx286_1
              have hw286_0 := hx286_0
              obtain rfl : ad277 = ad286 := (by injection e286)
              replace hx286_0 := h_ HB hx286_0
              replace hx286_1 := h_ HB hx286_1
              replace hx286_2 := h_ HB hx286_2
              replace hx286_3 := h_ HB hx286_3
              replace hx286_4 := h_ HB hx286_4
              replace hx286_5 := h_ HB hx286_5
              replace p286 := eq_true p286
              replace q286 := eq_true q286
              refine start_ (n := 13) (S := fun w' => w'.cell? ⟨gb274, 0, none⟩ = some (.int .i64 t267) ∧ w'.cell? ⟨gb274, 1, none⟩ = some (.string t268) ∧ w'.cell? ⟨gb274, 2, none⟩ = some (.int .i64 t269) ∧ w'.cell? ⟨gb274, 3, none⟩ = some (.int .i64 t270) ∧ w'.cell? ⟨gb274, 4, none⟩ = some (.int .i64 t271) ∧ w'.cell? ⟨gb274, 5, none⟩ = some (.int .i64 t272) ∧ w'.cell? ⟨gb285, 0, none⟩ = some (.slice Ao21 t278.length co21) ∧ w'.cell? ⟨gb285, 1, none⟩ = some (.bool t281) ∧ w'.cell? ⟨gb285, 2, none⟩ = some (.int .i64 t282) ∧ w'.cell? ⟨gb285, 3, none⟩ = some (.string t283) ∧ w'.cell? (ad277.add ((t271).toNat * 6)) = some (.int .i64 ((rd_T50 l0 t271).f0)) ∧ w'.cell? ⟨(ad277.add ((t271).toNat * 6)).block, (ad277.add ((t271).toNat * 6)).off + 1, none⟩ = some (.string ((rd_T50 l0 t271).f1)) ∧ w'.cell? ⟨(ad277.add ((t271).toNat * 6)).block, (ad277.add ((t271).toNat * 6)).off + 2, none⟩ = some (.int .i64 ((rd_T50 l0 t271).f2)) ∧ w'.cell? ⟨(ad277.add ((t271).toNat * 6)).block, (ad277.add ((t271).toNat * 6)).off + 3, none⟩ = some (.int .i64 ((rd_T50 l0 t271).f3)) ∧ w'.cell? ⟨(ad277.add ((t271).toNat * 6)).block, (ad277.add ((t271).toNat * 6)).off + 4, none⟩ = some (.int .i64 ((rd_T50 l0 t271).f4)) ∧ w'.cell? ⟨(ad277.add ((t271).toNat * 6)).block, (ad277.add ((t271).toNat * 6)).off + 5, none⟩ = some (.int .i64 ((rd_T50 l0 t271).f5))) (ds := []) #[false, false, false, false, false, false, false, false, false, false, false, false, false] (by kernel_rfl) rfl rfl ⟨(blk_cell BK274.out 0).trans rfl, (blk_cell BK274.out 1).trans rfl, (blk_cell BK274.out 2).trans rfl, (blk_cell BK274.out 3).trans rfl, (blk_cell BK274.out 4).trans rfl, (blk_cell BK274.out 5).trans rfl, (blk_cell BK285.out 0).trans rfl, (blk_cell BK285.out 1).trans rfl, (blk_cell BK285.out 2).trans rfl, (blk_cell BK285.out 3).trans rfl, ((HB.out.cell (World.block_lt_of_cell? w _ hw286_0)).trans hw286_0), ((HB.out.cell (World.block_lt_of_cell? w _ hw286_1)).trans hw286_1), ((HB.out.cell (World.block_lt_of_cell? w _ hw286_2)).trans hw286_2), ((HB.out.cell (World.block_lt_of_cell? w _ hw286_3)).trans hw286_3), ((HB.out.cell (World.block_lt_of_cell? w _ hw286_4)).trans hw286_4), ((HB.out.cell (World.block_lt_of_cell? w _ hw286_5)).trans hw286_5)⟩ (fun hHeld => ?_); refine with_tabW pool_Method.tab8 pool_Method.bits8 (fun HT_ HW_ => ?_)
              generalize w25.drew = w26 at HO280 BK266 BK274 BK285 HB hx286_0 hx286_1 hx286_2 hx286_3 hx286_4 hx286_5 hHeld ⊢
              refine u_ 0 43 (bb 13 1) ?_
              refine u_ 1 44 (bb 13 3) ?_
              refine u_ 2 45 (bb 13 7) ?_
              refine u_ 8 51 (bb 13 263) ?_
              refine u_ 9 4 (bb 13 775) ?_
              refine t_ 3 46 (bb 13 783) ?_
              refine u_ 4 47 (bb 13 799) ?_
              refine u_ 5 48 (bb 13 831) ?_
              refine t_ 6 49 (bb 13 895) ?_
              refine u_ 10 5 (bb 13 1919) ?_
              refine t_ 7 50 (bb 13 2047) ?_
              refine one_ (i := 11) (N := none) #[true, true, true, true, true, true, true, true, true, true, true, true, false] rfl rfl (one_of HT_.out (by kernel_rfl)) (by decide) (fun K hK => ?_)
              have hs27 : w26.cell? ⟨gb266, 0, none⟩ = some (.slice none 0 0) := (blk_cell BK266.out 0).trans rfl
              have hfs27 := blk_frozen BK266.out 0
              have hns27_1 := NB274_266.out
              have hns27_2 := NB285_266.out
              have hms27_1 := NB266_274.out
              have hms27_2 := NB266_285.out
              have hs28 : w26.cell? ⟨gb266, 1, none⟩ = some (.bool false) := (blk_cell BK266.out 1).trans rfl
              have hfs28 := blk_frozen BK266.out 1
              have hns28_1 := NB274_266.out
              have hns28_2 := NB285_266.out
              have hms28_1 := NB266_274.out
              have hms28_2 := NB266_285.out
              have hs29 : w26.cell? ⟨gb266, 2, none⟩ = some (.int .i64 0) := (blk_cell BK266.out 2).trans rfl
              have hfs29 := blk_frozen BK266.out 2
              have hns29_1 := NB274_266.out
              have hns29_2 := NB285_266.out
              have hms29_1 := NB266_274.out
              have hms29_2 := NB266_285.out
              have hs30 : w26.cell? ⟨gb266, 3, none⟩ = some (.string (⟨#[]⟩ : ByteArray)) := (blk_cell BK266.out 3).trans rfl
              have hfs30 := blk_frozen BK266.out 3
              have hns30_1 := NB274_266.out
              have hns30_2 := NB285_266.out
              have hms30_1 := NB266_274.out
              have hms30_2 := NB266_285.out
              refine skip_ (w1 := ?_) (by rfl) rfl ?_ ?_
              rotate_left
              · go_simp
                rfl
              refine hK.out _ _ (S_ hHeld) (fun hHeld => ?_)
              clear hK K
              refine u_ 12 7 (bb 13 8191) ?_
              refine done_ (done_of HT_.out (by kernel_rfl)) ?_
              try go_wp2
              refine bodyPost_ret (results_list (rs := [.tmp 4, .tmp 5, .cell 6 39, .tmp 7]) rfl (by simp) (.tmp (.tmp (.cell gb266 39 #[.slice Ao21 t278.length co21, .bool t281, .int .i64 t282, .string t283] (0, 0) _ rfl P_ Tryd.underlying39 rfl (by kernel_rfl) (.tmp .nil))))) rfl ?_
              exact ⟨_, E_, by (with_reducible repeat (first | apply Kd.R_alloc | apply Kd.R_drewN | apply Kd.R_drew)); exact Kd.R_mono (Kd.R_far (p := ⟨gb266, 3, none⟩) (Kd.R_far (p := ⟨gb266, 2, none⟩) (Kd.R_far (p := ⟨gb266, 1, none⟩) (Kd.R_far (p := ⟨gb266, 0, none⟩) (Kd.R_types HO280.out BK266.out (by decide)) (fun _ hk => hk.2) (.slice Ao21 t278.length co21)) (fun _ hk => hk.2) (.bool t281)) (fun _ hk => hk.2) (.int .i64 t282)) (fun _ hk => hk.2) (.string t283)) (fun _ hk => trivial), B_⟩
            · rw [if_neg c11] at H
              exact absurd H (by simp)
          · rw [if_neg c10] at H
            exact absurd H (by simp)
        · rw [if_neg c8] at H
          exact absurd H (by simp)
      · rw [if_neg c7] at H
        exact absurd H (by simp)
    · rw [if_neg c6] at H
      have c6b0 : (t276 == 0) = false := beq_eq_false_iff_ne.mpr c6
      have c6b1 : (t276 != 0) = true := bne_iff_ne.mpr c6
      simp only [Option.some.injEq, Prod.mk.injEq] at H
      obtain ⟨rfl, rfl, rfl, rfl, rfl, rfl, rfl⟩ := H
      go_enter Tryd.func21, Tryd.ntmps21
      go_wp2_with (first | ((with_reducible refine d_ 6 ?_); refine X_ 6 #[.slice none 0 0, .bool false, .int .i64 0, .string (⟨#[]⟩ : ByteArray)] 39 ?_; intro gb266 hg w31 hbox hb; have BK266 := Aside0.mk hbox; have GW266 := Aside0.mk (s_ hg); have GE266 := GW266; have HB := bs_ hb; clear hb hbox hg) | ((with_reducible refine gt_ 41 ?_); refine gd_ 15 Tryd.func41 (pool_right.calls k _ _ l0 a1 6 t267 t268 t269 t270 t271 t272 t273 _ (Y_ (Kd.C_below HR0.out HB.out)) HC0.out A3.out) ?_; intro w32 hb; have BK266 := kb_ BK266 hb; have HB := bs_ hb; (try clear hb); (try clear hb2); (try clear hk); (try clear hi)) | ((with_reducible refine d_ 8 ?_); refine X_ 8 #[.int .i64 0, .string (⟨#[]⟩ : ByteArray), .int .i64 0, .int .i64 0, .int .i64 0, .int .i64 0] 50 ?_; intro gb274 hg w33 hbox hb; have BK274 := Aside0.mk hbox; have GW274 := Aside0.mk (s_ hg); have GE274 := GW274; have NB266_274 := Aside0.mk (xx_ hg BK266); have BK266 := kb_ BK266 hb; have NB274_266 := Aside0.mk NB266_274.out.symm; have HB := bs_ hb; clear hb hbox hg; have hnb34 := NB274_266.out; have hnc34 := NB266_274.out; obtain ⟨hcz35_0, hcz35_1, hcz35_2, hcz35_3, hcz35_4, hcz35_5, hfz35_0, hfz35_1, hfz35_2, hfz35_3, hfz35_4, hfz35_5⟩ := c6_ BK274.out) | ((with_reducible refine gt_ 19 ?_); refine gd_ 26 Tryd.func19 (pool_Class.calls k _ _ l0 t270 t275 t276 _ (Kd.C_below HR0.out B_) HC0.out A5.out) ?_; intro w36 hb; have BK266 := Aside0.mk (blk_below (g := gb266) (o := .cells #[.slice none 0 0, .bool false, .int .i64 0, .string (⟨#[]⟩ : ByteArray)] 39 (0, 0)) P_ hb); have BK274 := Aside0.mk (blk_below (g := gb274) (o := .cells #[.int .i64 t267, .string t268, .int .i64 t269, .int .i64 t270, .int .i64 t271, .int .i64 t272] 50 (0, 0)) P_ hb); have HB := bs_ hb; (try clear hb); (try clear hb2); (try clear hk); (try clear hi); obtain ⟨hcz37_0, hcz37_1, hcz37_2, hcz37_3, hfz37_0, hfz37_1, hfz37_2, hfz37_3⟩ := c4_ BK266.out))
      refine bodyPost_ret (results_list (rs := [.tmp 4, .tmp 5, .cell 6 39, .tmp 7]) rfl (by simp) (.tmp (.tmp (.cell gb266 39 #[.slice none 0 0, .bool false, .int .i64 0, .string (⟨#[]⟩ : ByteArray)] (0, 0) _ rfl P_ Tryd.underlying39 rfl (by kernel_rfl) (.tmp .nil))))) rfl ?_
      exact ⟨_, E_, by first | exact Kd.R_nil _ _ _ _ _ | exact Kd.N_nil _ _ _ _ _ | exact Kd.V_nil _ _ _ _ _ | exact Kd.Q_nil _ _ _ _ _ | exact Kd.S_nil _ _ _ _ _, B_⟩
  · rw [if_neg c4] at H
    have c4b0 : (t273 == 0) = false := beq_eq_false_iff_ne.mpr c4
    have c4b1 : (t273 != 0) = true := bne_iff_ne.mpr c4
    simp only [Option.some.injEq, Prod.mk.injEq] at H
    obtain ⟨rfl, rfl, rfl, rfl, rfl, rfl, rfl⟩ := H
    go_enter Tryd.func21, Tryd.ntmps21
    go_wp2_with (first | ((with_reducible refine d_ 6 ?_); refine X_ 6 #[.slice none 0 0, .bool false, .int .i64 0, .string (⟨#[]⟩ : ByteArray)] 39 ?_; intro gb266 hg w38 hbox hb; have BK266 := Aside0.mk hbox; have GW266 := Aside0.mk (s_ hg); have GE266 := GW266; have HB := bs_ hb; clear hb hbox hg) | ((with_reducible refine gt_ 41 ?_); refine gd_ 15 Tryd.func41 (pool_right.calls k _ _ l0 a1 6 t267 t268 t269 t270 t271 t272 t273 _ (Y_ (Kd.C_below HR0.out HB.out)) HC0.out A3.out) ?_; intro w39 hb; have BK266 := kb_ BK266 hb; have HB := bs_ hb; (try clear hb); (try clear hb2); (try clear hk); (try clear hi)) | ((with_reducible refine d_ 8 ?_); refine X_ 8 #[.int .i64 0, .string (⟨#[]⟩ : ByteArray), .int .i64 0, .int .i64 0, .int .i64 0, .int .i64 0] 50 ?_; intro gb274 hg w40 hbox hb; have BK274 := Aside0.mk hbox; have GW274 := Aside0.mk (s_ hg); have GE274 := GW274; have NB266_274 := Aside0.mk (xx_ hg BK266); have BK266 := kb_ BK266 hb; have NB274_266 := Aside0.mk NB266_274.out.symm; have HB := bs_ hb; clear hb hbox hg; have hnb41 := NB274_266.out; have hnc41 := NB266_274.out; obtain ⟨hcz42_0, hcz42_1, hcz42_2, hcz42_3, hcz42_4, hcz42_5, hfz42_0, hfz42_1, hfz42_2, hfz42_3, hfz42_4, hfz42_5⟩ := c6_ BK274.out; obtain ⟨hcz43_0, hcz43_1, hcz43_2, hcz43_3, hfz43_0, hfz43_1, hfz43_2, hfz43_3⟩ := c4_ BK266.out))
    refine bodyPost_ret (results_list (rs := [.tmp 4, .tmp 5, .cell 6 39, .tmp 7]) rfl (by simp) (.tmp (.tmp (.cell gb266 39 #[.slice none 0 0, .bool false, .int .i64 0, .string (⟨#[]⟩ : ByteArray)] (0, 0) _ rfl P_ Tryd.underlying39 rfl (by kernel_rfl) (.tmp .nil))))) rfl ?_
    exact ⟨_, E_, by first | exact Kd.R_nil _ _ _ _ _ | exact Kd.N_nil _ _ _ _ _ | exact Kd.V_nil _ _ _ _ _ | exact Kd.Q_nil _ _ _ _ _ | exact Kd.S_nil _ _ _ _ _, B_⟩
end Go.Proofs.YtldejfkplnejjaaDoor.P
