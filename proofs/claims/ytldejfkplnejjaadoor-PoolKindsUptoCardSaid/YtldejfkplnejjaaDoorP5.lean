-- Written by my program xprint.py (a patched run of the kit's print). Lean checks it.
import Derived.Test.YtldejfkplnejjaaDoorP0
import Derived.Test.YtldejfkplnejjaaDoorP2
import Derived.Test.YtldejfkplnejjaaDoorExt
import Derived.Test.YtldejfkplnejjaaDoorShort
import Derived.Test.YtldejfkplnejjaaDoorShort2
import Derived.Test.YtldejfkplnejjaaDoorExtUses
namespace Go.Proofs.YtldejfkplnejjaaDoor.P
open Go.RowKit Go.Proofs.YtldejfkplnejjaaDoorW.PrintWords Go.Proofs.YtldejfkplnejjaaDoorW.PrintLast Go.Proofs.YtldejfkplnejjaaDoorW.PrintMore
attribute [local go_sem] max2_int min2_int max_two min_two max_three min_three max_four min_four   -- for this text's walks alone
set_option linter.unusedVariables false
set_option linter.unusedSimpArgs false
theorem rb2_ {P : Program} {c : Code} {Q : Exit → Act → World → Prop} {a : Act} {w0 W : World} {g1 g2 : Nat} {o1 o2 : Obj} (h1 : W.heap[g1]? = some o1) (h2 : W.heap[g2]? = some o2) (hb : Below w0.heap.size w0 W) (h : ∀ V : World, V.heap[g1]? = some o1 → V.heap[g2]? = some o2 → Below w0.heap.size w0 V → c.wp P Q a V) : c.wp P Q a W := h W h1 h2 hb
mutual
def pool_wrong.j0 : Nat → List (S50) → Int → Bool → Int → ByteArray → Int → Int → Int → Int → Int → ByteArray → Int → Int → Int → Int → Option (Int)
  | 0, _, _, _, _, _, _, _, _, _, _, _, _, _, _, _ => none
  | k + 1, x0, x10, x21, x152000, x152001, x152002, x152003, x152004, x152005, x153000, x153001, x153002, x153003, x153004, x153005 => if x21 = true then (if (!(x152000 == x153000) || (!(x152001.toList == x153001.toList) || (!(x152002 == x153002) || (!(x152004 == x153004) || (!(x152005 == x153005)))))) = true then (some 1) else ((pool_uses.f k x0 x152000 x152001 x152002 x152003 x152004 x152005).bind fun t155 => (some t155))) else (if x10 = 5 then (pool_wrong.j1 k x0 (x10 == 5) x152000 x152001 x152002 x152003 x152004 x152005 x153000 x153001 x153002 x153003 x153004 x153005) else (pool_wrong.j1 k x0 (x10 == 6) x152000 x152001 x152002 x152003 x152004 x152005 x153000 x153001 x153002 x153003 x153004 x153005))
def pool_wrong.j1 : Nat → List (S50) → Bool → Int → ByteArray → Int → Int → Int → Int → Int → ByteArray → Int → Int → Int → Int → Option (Int)
  | 0, _, _, _, _, _, _, _, _, _, _, _, _, _, _ => none
  | k + 1, x0, x27, x152000, x152001, x152002, x152003, x152004, x152005, x153000, x153001, x153002, x153003, x153004, x153005 => if x27 = true then (if (!(x152000 == x153000) || (!(x152001.toList == x153001.toList) || (!(x152002 == x153002)))) = true then (some 1) else ((pool_uses.f k x0 x152000 x152001 x152002 x152003 x152004 x152005).bind fun t156 => (some t156))) else (some 3)
end
def pool_wrong.f (k : Nat) (l0 : List (S50)) (a1_0 : Int) (a1_1 : ByteArray) (a1_2 : Int) (a1_3 : Int) (a1_4 : Int) (a1_5 : Int) : Option (Int) := if a1_0 = 1 then (if (!(a1_2 == 0) || (!(a1_3 == 0) || (!(a1_4 == 0) || (!(a1_5 == 0))))) = true then (some 1) else ((pool_uses.f k l0 a1_0 a1_1 a1_2 a1_3 a1_4 a1_5).bind fun t153 => (some t153))) else (if a1_0 = 2 then (if (!(a1_1.toList == ([] : List UInt8)) || (!(a1_3 == 0) || (!(a1_4 == 0) || (!(a1_5 == 0))))) = true then (some 1) else ((pool_uses.f k l0 a1_0 a1_1 a1_2 a1_3 a1_4 a1_5).bind fun t154 => (some t154))) else (if a1_0 = 3 then (pool_wrong.j0 k l0 a1_0 (a1_0 == 3) a1_0 a1_1 a1_2 a1_3 a1_4 a1_5 a1_0 (⟨#[]⟩ : ByteArray) 0 0 0 0) else (pool_wrong.j0 k l0 a1_0 (a1_0 == 4) a1_0 a1_1 a1_2 a1_3 a1_4 a1_5 a1_0 (⟨#[]⟩ : ByteArray) 0 0 0 0)))
def pool_wrong.T13 : Bool × List (List Nat × List Nat) := (true, [([], []), ([0], [0]), ([], []), ([2], [2]), ([], []), ([4], [4]), ([0, 1], []), ([6, 1, 0, 1], [1, 6]), ([0, 1, 2, 3, 6, 7], []), ([8, 3, 7, 0, 1, 2, 3, 6, 7], [3, 8]), ([0, 1, 2, 3, 4, 5, 6, 7, 8, 9], []), ([10, 5, 9, 0, 1, 2, 3, 4, 5, 6, 7, 8, 9], [5, 10])])
def pool_wrong.B13 : List Nat := [0, 1, 0, 4, 0, 16, 3, 67, 207, 463, 1023, 2047]
theorem pool_wrong.tab13 : rtab .any (opsOf Tryd.f39 13) = pool_wrong.T13 := by kernel_rfl
theorem pool_wrong.bits13 : waitsOk pool_wrong.T13.2 pool_wrong.B13 = true := by kernel_rfl
set_option maxHeartbeats 8000000 in
set_option maxRecDepth 100000 in
theorem pool_wrong.calls (k : Nat) (A0 : Option Addr) (c0 : Nat) (l0 : List (S50)) (a1_0 : Int) (a1_1 : ByteArray) (a1_2 : Int) (a1_3 : Int) (a1_4 : Int) (a1_5 : Int) (r : Int) (w : World) (hr0 : Kd.C k50 w A0 l0.length l0) (hc0 : l0.length ≤ c0) (h : pool_wrong.f k l0 a1_0 a1_1 a1_2 a1_3 a1_4 a1_5 = some r) :
    Calls Tryd.prog 39 #[.slice A0 l0.length c0, .agg #[.int .i64 a1_0, .string a1_1, .int .i64 a1_2, .int .i64 a1_3, .int .i64 a1_4, .int .i64 a1_5]] w fun e w' => e = .returned (.int .i64 r) ∧ Below w.heap.size w w' := by
  have hu50 := Tryd.underlying50
  have HR0 := Aside0.mk hr0
  have HC0 := Aside0.mk hc0
  clear hr0 hc0
  have HB := Aside0.mk (Below.refl w.heap.size w)
  have H : (if a1_0 = 1 then (if (!(a1_2 == 0) || (!(a1_3 == 0) || (!(a1_4 == 0) || (!(a1_5 == 0))))) = true then (some 1) else ((pool_uses.f k l0 a1_0 a1_1 a1_2 a1_3 a1_4 a1_5).bind fun t153 => (some t153))) else (if a1_0 = 2 then (if (!(a1_1.toList == ([] : List UInt8)) || (!(a1_3 == 0) || (!(a1_4 == 0) || (!(a1_5 == 0))))) = true then (some 1) else ((pool_uses.f k l0 a1_0 a1_1 a1_2 a1_3 a1_4 a1_5).bind fun t154 => (some t154))) else (if a1_0 = 3 then (pool_wrong.j0 k l0 a1_0 (a1_0 == 3) a1_0 a1_1 a1_2 a1_3 a1_4 a1_5 a1_0 (⟨#[]⟩ : ByteArray) 0 0 0 0) else (pool_wrong.j0 k l0 a1_0 (a1_0 == 4) a1_0 a1_1 a1_2 a1_3 a1_4 a1_5 a1_0 (⟨#[]⟩ : ByteArray) 0 0 0 0)))) = some r := h
  clear h
  by_cases c3 : a1_0 = 1
  · rw [if_pos c3] at H
    have c3b0 : (a1_0 == 1) = true := beq_iff_eq.mpr c3
    have c3b1 : (a1_0 != 1) = false := bne_eq_false_iff_eq.mpr c3
    clear c3
    by_cases c4 : (!(a1_2 == 0) || (!(a1_3 == 0) || (!(a1_4 == 0) || (!(a1_5 == 0))))) = true
    · rw [if_pos c4] at H
      have c4b0 : (!(a1_2 == 0) || (!(a1_3 == 0) || (!(a1_4 == 0) || (!(a1_5 == 0))))) = true := c4
      clear c4
      obtain rfl := Option.some.inj H
      go_enter Tryd.func39, Tryd.ntmps39
      go_upto_region 14 with (first | ((with_reducible refine d_ 3 ?_); refine X_ 3 #[.int .i64 a1_0, .string a1_1, .int .i64 a1_2, .int .i64 a1_3, .int .i64 a1_4, .int .i64 a1_5] 50 ?_; intro gb151 hg w5 hbox hb; have BK151 := Aside0.mk hbox; have GW151 := Aside0.mk (s_ hg); have GE151 := GW151; have HB := bs_ hb; clear hb hbox hg; obtain ⟨hcz6_0, hcz6_1, hcz6_2, hcz6_3, hcz6_4, hcz6_5, hfz6_0, hfz6_1, hfz6_2, hfz6_3, hfz6_4, hfz6_5⟩ := c6_ BK151.out) | ((with_reducible refine d_ 5 ?_); refine X_ 5 #[.int .i64 0, .string (⟨#[]⟩ : ByteArray), .int .i64 0, .int .i64 0, .int .i64 0, .int .i64 0] 50 ?_; intro gb152 hg w7 hbox hb; have BK152 := Aside0.mk hbox; have GW152 := Aside0.mk (s_ hg); have GE152 := GW152; have NB151_152 := Aside0.mk (xx_ hg BK151); have BK151 := kb_ BK151 hb; have NB152_151 := Aside0.mk NB151_152.out.symm; have HB := bs_ hb; clear hb hbox hg; have hnb8 := NB152_151.out; have hnc8 := NB151_152.out; obtain ⟨hcz9_0, hcz9_1, hcz9_2, hcz9_3, hcz9_4, hcz9_5, hfz9_0, hfz9_1, hfz9_2, hfz9_3, hfz9_4, hfz9_5⟩ := c6_ BK152.out; obtain ⟨hcz10_0, hcz10_1, hcz10_2, hcz10_3, hcz10_4, hcz10_5, hfz10_0, hfz10_1, hfz10_2, hfz10_3, hfz10_4, hfz10_5⟩ := c6_ BK151.out))
      refine rb2_ (w0 := w) (g1 := gb151) (g2 := gb152) (o1 := .cells #[.int .i64 a1_0, .string a1_1, .int .i64 a1_2, .int .i64 a1_3, .int .i64 a1_4, .int .i64 a1_5] 50 (0, 0)) (o2 := .cells #[.int .i64 a1_0, .string a1_1, .int .i64 0, .int .i64 0, .int .i64 0, .int .i64 0] 50 (0, 0)) ?_ ?_ ?_ ?_
      · exact (by repeat (first | (with_reducible exact BK151.out) | (with_reducible refine blk_far ?_ NB151_152.out _)))
      · exact P_
      · exact B_
      intro w9 b1_ b2_ b3_
      clear BK151 BK152 HB
      have BK151 := Aside0.mk b1_
      have BK152 := Aside0.mk b2_
      have HB := Aside0.mk b3_
      clear b1_ b2_ b3_
      obtain ⟨hqa0, hqa1, hqa2, hqa3, hqa4, hqa5, hqa6, hqa7, hqa8, hqa9, hqaa, hqab⟩ := c6_ BK151.out
      obtain ⟨hqb0, hqb1, hqb2, hqb3, hqb4, hqb5, hqb6, hqb7, hqb8, hqb9, hqba, hqbb⟩ := c6_ BK152.out
      have heq_ : ∀ (d : Nat) (w : World), (Op.equalIn (d + 2) 50 (.agg #[.int .i64 a1_0, .string a1_1, .int .i64 a1_2, .int .i64 a1_3, .int .i64 a1_4, .int .i64 a1_5]) (.agg #[.int .i64 a1_0, .string a1_1, .int .i64 0, .int .i64 0, .int .i64 0, .int .i64 0])).run Tryd.prog w = .ok false w := fun d w => (eqA50 d w a1_0 a1_0 a1_1 a1_1 a1_2 0 a1_3 0 a1_4 0 a1_5 0).trans (congrArg (fun b => Result.ok b w) (by have hc_ := c4b0; have ht_ : (⟨#[]⟩ : ByteArray).toList = ([] : List UInt8) := (ByteArray.toList_eq _).trans rfl; (try rw [ht_] at hc_); (try rw [ht_]); revert hc_; cases (a1_2 == (0 : Int)) <;> cases (a1_3 == (0 : Int)) <;> cases (a1_4 == (0 : Int)) <;> cases (a1_5 == (0 : Int)) <;> simp))
      go_wp2
      go_ret
      exact ⟨E_, B_⟩
    · rw [if_neg c4] at H
      have c4b0 : (!(a1_2 == 0) || (!(a1_3 == 0) || (!(a1_4 == 0) || (!(a1_5 == 0))))) = false := by simpa using c4
      clear c4
      replace H := Option.bind_eq_some_iff.mp H
      obtain ⟨t153, A110, H⟩ := H
      replace H : (some t153) = some r := H
      have A11 := Aside0.mk A110
      clear A110
      obtain rfl := Option.some.inj H
      go_enter Tryd.func39, Tryd.ntmps39
      go_upto_region 14 with (first | ((with_reducible refine d_ 3 ?_); refine X_ 3 #[.int .i64 a1_0, .string a1_1, .int .i64 a1_2, .int .i64 a1_3, .int .i64 a1_4, .int .i64 a1_5] 50 ?_; intro gb151 hg w12 hbox hb; have BK151 := Aside0.mk hbox; have GW151 := Aside0.mk (s_ hg); have GE151 := GW151; have HB := bs_ hb; clear hb hbox hg; obtain ⟨hcz13_0, hcz13_1, hcz13_2, hcz13_3, hcz13_4, hcz13_5, hfz13_0, hfz13_1, hfz13_2, hfz13_3, hfz13_4, hfz13_5⟩ := c6_ BK151.out) | ((with_reducible refine d_ 5 ?_); refine X_ 5 #[.int .i64 0, .string (⟨#[]⟩ : ByteArray), .int .i64 0, .int .i64 0, .int .i64 0, .int .i64 0] 50 ?_; intro gb152 hg w14 hbox hb; have BK152 := Aside0.mk hbox; have GW152 := Aside0.mk (s_ hg); have GE152 := GW152; have NB151_152 := Aside0.mk (xx_ hg BK151); have BK151 := kb_ BK151 hb; have NB152_151 := Aside0.mk NB151_152.out.symm; have HB := bs_ hb; clear hb hbox hg; have hnb15 := NB152_151.out; have hnc15 := NB151_152.out; obtain ⟨hcz16_0, hcz16_1, hcz16_2, hcz16_3, hcz16_4, hcz16_5, hfz16_0, hfz16_1, hfz16_2, hfz16_3, hfz16_4, hfz16_5⟩ := c6_ BK152.out; obtain ⟨hcz17_0, hcz17_1, hcz17_2, hcz17_3, hcz17_4, hcz17_5, hfz17_0, hfz17_1, hfz17_2, hfz17_3, hfz17_4, hfz17_5⟩ := c6_ BK151.out) | ((with_reducible refine gt_ 77 ?_); refine gd_ 44 Tryd.func77 (pool_uses.calls k _ _ l0 a1_0 a1_1 a1_2 a1_3 a1_4 a1_5 t153 _ (Kd.C_below HR0.out B_) HC0.out A11.out) ?_; intro w18 hb; have BK151 := Aside0.mk (blk_below (g := gb151) (o := .cells #[.int .i64 a1_0, .string a1_1, .int .i64 a1_2, .int .i64 a1_3, .int .i64 a1_4, .int .i64 a1_5] 50 (0, 0)) P_ hb); have BK152 := Aside0.mk (blk_below (g := gb152) (o := .cells #[.int .i64 a1_0, .string a1_1, .int .i64 0, .int .i64 0, .int .i64 0, .int .i64 0] 50 (0, 0)) P_ hb); have HB := bs_ hb; (try clear hb); (try clear hb2); (try clear hk); (try clear hi)))
      refine rb2_ (w0 := w) (g1 := gb151) (g2 := gb152) (o1 := .cells #[.int .i64 a1_0, .string a1_1, .int .i64 a1_2, .int .i64 a1_3, .int .i64 a1_4, .int .i64 a1_5] 50 (0, 0)) (o2 := .cells #[.int .i64 a1_0, .string a1_1, .int .i64 0, .int .i64 0, .int .i64 0, .int .i64 0] 50 (0, 0)) ?_ ?_ ?_ ?_
      · exact (by repeat (first | (with_reducible exact BK151.out) | (with_reducible refine blk_far ?_ NB151_152.out _)))
      · exact P_
      · exact B_
      intro w9 b1_ b2_ b3_
      clear BK151 BK152 HB
      have BK151 := Aside0.mk b1_
      have BK152 := Aside0.mk b2_
      have HB := Aside0.mk b3_
      clear b1_ b2_ b3_
      obtain ⟨hqa0, hqa1, hqa2, hqa3, hqa4, hqa5, hqa6, hqa7, hqa8, hqa9, hqaa, hqab⟩ := c6_ BK151.out
      obtain ⟨hqb0, hqb1, hqb2, hqb3, hqb4, hqb5, hqb6, hqb7, hqb8, hqb9, hqba, hqbb⟩ := c6_ BK152.out
      have heq_ : ∀ (d : Nat) (w : World), (Op.equalIn (d + 2) 50 (.agg #[.int .i64 a1_0, .string a1_1, .int .i64 a1_2, .int .i64 a1_3, .int .i64 a1_4, .int .i64 a1_5]) (.agg #[.int .i64 a1_0, .string a1_1, .int .i64 0, .int .i64 0, .int .i64 0, .int .i64 0])).run Tryd.prog w = .ok true w := fun d w => (eqA50 d w a1_0 a1_0 a1_1 a1_1 a1_2 0 a1_3 0 a1_4 0 a1_5 0).trans (congrArg (fun b => Result.ok b w) (by have hc_ := c4b0; have ht_ : (⟨#[]⟩ : ByteArray).toList = ([] : List UInt8) := (ByteArray.toList_eq _).trans rfl; (try rw [ht_] at hc_); (try rw [ht_]); revert hc_; cases (a1_2 == (0 : Int)) <;> cases (a1_3 == (0 : Int)) <;> cases (a1_4 == (0 : Int)) <;> cases (a1_5 == (0 : Int)) <;> simp))
      go_wp2_with (first | ((with_reducible refine gt_ 77 ?_); refine gd_ 44 Tryd.func77 (pool_uses.calls k _ _ l0 a1_0 a1_1 a1_2 a1_3 a1_4 a1_5 t153 _ (Kd.C_below HR0.out B_) HC0.out A11.out) ?_; intro w18 hb; have HB := Aside0.mk (below_step HB.out hb); clear hb))
      go_ret
      exact ⟨E_, B_⟩
  · rw [if_neg c3] at H
    have c3b0 : (a1_0 == 1) = false := beq_eq_false_iff_ne.mpr c3
    have c3b1 : (a1_0 != 1) = true := bne_iff_ne.mpr c3
    by_cases c19 : a1_0 = 2
    · rw [if_pos c19] at H
      have c19b0 : (a1_0 == 2) = true := beq_iff_eq.mpr c19
      have c19b1 : (a1_0 != 2) = false := bne_eq_false_iff_eq.mpr c19
      clear c19
      by_cases c20 : (!(a1_1.toList == ([] : List UInt8)) || (!(a1_3 == 0) || (!(a1_4 == 0) || (!(a1_5 == 0))))) = true
      · rw [if_pos c20] at H
        have c20b0 : (!(a1_1.toList == ([] : List UInt8)) || (!(a1_3 == 0) || (!(a1_4 == 0) || (!(a1_5 == 0))))) = true := c20
        clear c20
        obtain rfl := Option.some.inj H
        go_enter Tryd.func39, Tryd.ntmps39
        go_upto_region 14 with (first | ((with_reducible refine d_ 3 ?_); refine X_ 3 #[.int .i64 a1_0, .string a1_1, .int .i64 a1_2, .int .i64 a1_3, .int .i64 a1_4, .int .i64 a1_5] 50 ?_; intro gb151 hg w21 hbox hb; have BK151 := Aside0.mk hbox; have GW151 := Aside0.mk (s_ hg); have GE151 := GW151; have HB := bs_ hb; clear hb hbox hg; obtain ⟨hcz22_0, hcz22_1, hcz22_2, hcz22_3, hcz22_4, hcz22_5, hfz22_0, hfz22_1, hfz22_2, hfz22_3, hfz22_4, hfz22_5⟩ := c6_ BK151.out) | ((with_reducible refine d_ 5 ?_); refine X_ 5 #[.int .i64 0, .string (⟨#[]⟩ : ByteArray), .int .i64 0, .int .i64 0, .int .i64 0, .int .i64 0] 50 ?_; intro gb152 hg w23 hbox hb; have BK152 := Aside0.mk hbox; have GW152 := Aside0.mk (s_ hg); have GE152 := GW152; have NB151_152 := Aside0.mk (xx_ hg BK151); have BK151 := kb_ BK151 hb; have NB152_151 := Aside0.mk NB151_152.out.symm; have HB := bs_ hb; clear hb hbox hg; have hnb24 := NB152_151.out; have hnc24 := NB151_152.out; obtain ⟨hcz25_0, hcz25_1, hcz25_2, hcz25_3, hcz25_4, hcz25_5, hfz25_0, hfz25_1, hfz25_2, hfz25_3, hfz25_4, hfz25_5⟩ := c6_ BK152.out; obtain ⟨hcz26_0, hcz26_1, hcz26_2, hcz26_3, hcz26_4, hcz26_5, hfz26_0, hfz26_1, hfz26_2, hfz26_3, hfz26_4, hfz26_5⟩ := c6_ BK151.out))
        refine rb2_ (w0 := w) (g1 := gb151) (g2 := gb152) (o1 := .cells #[.int .i64 a1_0, .string a1_1, .int .i64 a1_2, .int .i64 a1_3, .int .i64 a1_4, .int .i64 a1_5] 50 (0, 0)) (o2 := .cells #[.int .i64 a1_0, .string (⟨#[]⟩ : ByteArray), .int .i64 a1_2, .int .i64 0, .int .i64 0, .int .i64 0] 50 (0, 0)) ?_ ?_ ?_ ?_
        · exact (by repeat (first | (with_reducible exact BK151.out) | (with_reducible refine blk_far ?_ NB151_152.out _)))
        · exact P_
        · exact B_
        intro w9 b1_ b2_ b3_
        clear BK151 BK152 HB
        have BK151 := Aside0.mk b1_
        have BK152 := Aside0.mk b2_
        have HB := Aside0.mk b3_
        clear b1_ b2_ b3_
        obtain ⟨hqa0, hqa1, hqa2, hqa3, hqa4, hqa5, hqa6, hqa7, hqa8, hqa9, hqaa, hqab⟩ := c6_ BK151.out
        obtain ⟨hqb0, hqb1, hqb2, hqb3, hqb4, hqb5, hqb6, hqb7, hqb8, hqb9, hqba, hqbb⟩ := c6_ BK152.out
        have heq_ : ∀ (d : Nat) (w : World), (Op.equalIn (d + 2) 50 (.agg #[.int .i64 a1_0, .string a1_1, .int .i64 a1_2, .int .i64 a1_3, .int .i64 a1_4, .int .i64 a1_5]) (.agg #[.int .i64 a1_0, .string (⟨#[]⟩ : ByteArray), .int .i64 a1_2, .int .i64 0, .int .i64 0, .int .i64 0])).run Tryd.prog w = .ok false w := fun d w => (eqA50 d w a1_0 a1_0 a1_1 (⟨#[]⟩ : ByteArray) a1_2 a1_2 a1_3 0 a1_4 0 a1_5 0).trans (congrArg (fun b => Result.ok b w) (by have hc_ := c20b0; have ht_ : (⟨#[]⟩ : ByteArray).toList = ([] : List UInt8) := (ByteArray.toList_eq _).trans rfl; (try rw [ht_] at hc_); (try rw [ht_]); revert hc_; cases (a1_1.toList == ([] : List UInt8)) <;> cases (a1_3 == (0 : Int)) <;> cases (a1_4 == (0 : Int)) <;> cases (a1_5 == (0 : Int)) <;> simp))
        go_wp2
        go_ret
        exact ⟨E_, B_⟩
      · rw [if_neg c20] at H
        have c20b0 : (!(a1_1.toList == ([] : List UInt8)) || (!(a1_3 == 0) || (!(a1_4 == 0) || (!(a1_5 == 0))))) = false := by simpa using c20
        clear c20
        replace H := Option.bind_eq_some_iff.mp H
        obtain ⟨t154, A270, H⟩ := H
        replace H : (some t154) = some r := H
        have A27 := Aside0.mk A270
        clear A270
        obtain rfl := Option.some.inj H
        go_enter Tryd.func39, Tryd.ntmps39
        go_upto_region 14 with (first | ((with_reducible refine d_ 3 ?_); refine X_ 3 #[.int .i64 a1_0, .string a1_1, .int .i64 a1_2, .int .i64 a1_3, .int .i64 a1_4, .int .i64 a1_5] 50 ?_; intro gb151 hg w28 hbox hb; have BK151 := Aside0.mk hbox; have GW151 := Aside0.mk (s_ hg); have GE151 := GW151; have HB := bs_ hb; clear hb hbox hg; obtain ⟨hcz29_0, hcz29_1, hcz29_2, hcz29_3, hcz29_4, hcz29_5, hfz29_0, hfz29_1, hfz29_2, hfz29_3, hfz29_4, hfz29_5⟩ := c6_ BK151.out) | ((with_reducible refine d_ 5 ?_); refine X_ 5 #[.int .i64 0, .string (⟨#[]⟩ : ByteArray), .int .i64 0, .int .i64 0, .int .i64 0, .int .i64 0] 50 ?_; intro gb152 hg w30 hbox hb; have BK152 := Aside0.mk hbox; have GW152 := Aside0.mk (s_ hg); have GE152 := GW152; have NB151_152 := Aside0.mk (xx_ hg BK151); have BK151 := kb_ BK151 hb; have NB152_151 := Aside0.mk NB151_152.out.symm; have HB := bs_ hb; clear hb hbox hg; have hnb31 := NB152_151.out; have hnc31 := NB151_152.out; obtain ⟨hcz32_0, hcz32_1, hcz32_2, hcz32_3, hcz32_4, hcz32_5, hfz32_0, hfz32_1, hfz32_2, hfz32_3, hfz32_4, hfz32_5⟩ := c6_ BK152.out; obtain ⟨hcz33_0, hcz33_1, hcz33_2, hcz33_3, hcz33_4, hcz33_5, hfz33_0, hfz33_1, hfz33_2, hfz33_3, hfz33_4, hfz33_5⟩ := c6_ BK151.out) | ((with_reducible refine gt_ 77 ?_); refine gd_ 44 Tryd.func77 (pool_uses.calls k _ _ l0 a1_0 a1_1 a1_2 a1_3 a1_4 a1_5 t154 _ (Kd.C_below HR0.out B_) HC0.out A27.out) ?_; intro w34 hb; have BK151 := Aside0.mk (blk_below (g := gb151) (o := .cells #[.int .i64 a1_0, .string a1_1, .int .i64 a1_2, .int .i64 a1_3, .int .i64 a1_4, .int .i64 a1_5] 50 (0, 0)) P_ hb); have BK152 := Aside0.mk (blk_below (g := gb152) (o := .cells #[.int .i64 a1_0, .string (⟨#[]⟩ : ByteArray), .int .i64 a1_2, .int .i64 0, .int .i64 0, .int .i64 0] 50 (0, 0)) P_ hb); have HB := bs_ hb; (try clear hb); (try clear hb2); (try clear hk); (try clear hi)))
        refine rb2_ (w0 := w) (g1 := gb151) (g2 := gb152) (o1 := .cells #[.int .i64 a1_0, .string a1_1, .int .i64 a1_2, .int .i64 a1_3, .int .i64 a1_4, .int .i64 a1_5] 50 (0, 0)) (o2 := .cells #[.int .i64 a1_0, .string (⟨#[]⟩ : ByteArray), .int .i64 a1_2, .int .i64 0, .int .i64 0, .int .i64 0] 50 (0, 0)) ?_ ?_ ?_ ?_
        · exact (by repeat (first | (with_reducible exact BK151.out) | (with_reducible refine blk_far ?_ NB151_152.out _)))
        · exact P_
        · exact B_
        intro w9 b1_ b2_ b3_
        clear BK151 BK152 HB
        have BK151 := Aside0.mk b1_
        have BK152 := Aside0.mk b2_
        have HB := Aside0.mk b3_
        clear b1_ b2_ b3_
        obtain ⟨hqa0, hqa1, hqa2, hqa3, hqa4, hqa5, hqa6, hqa7, hqa8, hqa9, hqaa, hqab⟩ := c6_ BK151.out
        obtain ⟨hqb0, hqb1, hqb2, hqb3, hqb4, hqb5, hqb6, hqb7, hqb8, hqb9, hqba, hqbb⟩ := c6_ BK152.out
        have heq_ : ∀ (d : Nat) (w : World), (Op.equalIn (d + 2) 50 (.agg #[.int .i64 a1_0, .string a1_1, .int .i64 a1_2, .int .i64 a1_3, .int .i64 a1_4, .int .i64 a1_5]) (.agg #[.int .i64 a1_0, .string (⟨#[]⟩ : ByteArray), .int .i64 a1_2, .int .i64 0, .int .i64 0, .int .i64 0])).run Tryd.prog w = .ok true w := fun d w => (eqA50 d w a1_0 a1_0 a1_1 (⟨#[]⟩ : ByteArray) a1_2 a1_2 a1_3 0 a1_4 0 a1_5 0).trans (congrArg (fun b => Result.ok b w) (by have hc_ := c20b0; have ht_ : (⟨#[]⟩ : ByteArray).toList = ([] : List UInt8) := (ByteArray.toList_eq _).trans rfl; (try rw [ht_] at hc_); (try rw [ht_]); revert hc_; cases (a1_1.toList == ([] : List UInt8)) <;> cases (a1_3 == (0 : Int)) <;> cases (a1_4 == (0 : Int)) <;> cases (a1_5 == (0 : Int)) <;> simp))
        go_wp2_with (first | ((with_reducible refine gt_ 77 ?_); refine gd_ 44 Tryd.func77 (pool_uses.calls k _ _ l0 a1_0 a1_1 a1_2 a1_3 a1_4 a1_5 t154 _ (Kd.C_below HR0.out B_) HC0.out A27.out) ?_; intro w34 hb; have HB := Aside0.mk (below_step HB.out hb); clear hb))
        go_ret
        exact ⟨E_, B_⟩
    · rw [if_neg c19] at H
      have c19b0 : (a1_0 == 2) = false := beq_eq_false_iff_ne.mpr c19
      have c19b1 : (a1_0 != 2) = true := bne_iff_ne.mpr c19
      have HC35 := Aside0.mk H
      clear H
      go_enter Tryd.func39, Tryd.ntmps39
      go_upto_if 21 with (first | ((with_reducible refine d_ 3 ?_); refine X_ 3 #[.int .i64 a1_0, .string a1_1, .int .i64 a1_2, .int .i64 a1_3, .int .i64 a1_4, .int .i64 a1_5] 50 ?_; intro gb151 hg w36 hbox hb; have BK151 := Aside0.mk hbox; have GW151 := Aside0.mk (s_ hg); have GE151 := GW151; have HB := bs_ hb; clear hb hbox hg; obtain ⟨hcz37_0, hcz37_1, hcz37_2, hcz37_3, hcz37_4, hcz37_5, hfz37_0, hfz37_1, hfz37_2, hfz37_3, hfz37_4, hfz37_5⟩ := c6_ BK151.out) | ((with_reducible refine d_ 5 ?_); refine X_ 5 #[.int .i64 0, .string (⟨#[]⟩ : ByteArray), .int .i64 0, .int .i64 0, .int .i64 0, .int .i64 0] 50 ?_; intro gb152 hg w38 hbox hb; have BK152 := Aside0.mk hbox; have GW152 := Aside0.mk (s_ hg); have GE152 := GW152; have NB151_152 := Aside0.mk (xx_ hg BK151); have BK151 := kb_ BK151 hb; have NB152_151 := Aside0.mk NB151_152.out.symm; have HB := bs_ hb; clear hb hbox hg; have hnb39 := NB152_151.out; have hnc39 := NB151_152.out; obtain ⟨hcz40_0, hcz40_1, hcz40_2, hcz40_3, hcz40_4, hcz40_5, hfz40_0, hfz40_1, hfz40_2, hfz40_3, hfz40_4, hfz40_5⟩ := c6_ BK152.out; obtain ⟨hcz41_0, hcz41_1, hcz41_2, hcz41_3, hcz41_4, hcz41_5, hfz41_0, hfz41_1, hfz41_2, hfz41_3, hfz41_4, hfz41_5⟩ := c6_ BK151.out))
      (try simp only [Act.put, List.setIfInBounds_toArray, List.set_cons_zero, List.set_cons_succ])
      go_cut [21] (fun v21 wc => ∃ (kq : Nat) (x21_34 : Bool), v21 = .bool x21_34 ∧ Aside0 (pool_wrong.j0 kq l0 a1_0 x21_34 a1_0 a1_1 a1_2 a1_3 a1_4 a1_5 a1_0 (⟨#[]⟩ : ByteArray) 0 0 0 0 = some r) ∧ Aside0 (kq ≤ k) ∧ Aside0 (wc.heap[gb151]? = some (.cells #[.int .i64 a1_0, .string a1_1, .int .i64 a1_2, .int .i64 a1_3, .int .i64 a1_4, .int .i64 a1_5] 50 (0, 0))) ∧ Aside0 (wc.heap[gb152]? = some (.cells #[.int .i64 a1_0, .string (⟨#[]⟩ : ByteArray), .int .i64 0, .int .i64 0, .int .i64 0, .int .i64 0] 50 (0, 0))) ∧ Aside0 (Below w.heap.size w wc))
      case first =>
        have H := HC35.out
        clear HC35
        by_cases c42 : a1_0 = 3
        · rw [if_pos c42] at H
          have c42b0 : (a1_0 == 3) = true := beq_iff_eq.mpr c42
          have c42b1 : (a1_0 != 3) = false := bne_eq_false_iff_eq.mpr c42
          clear c42
          (first | rw [c42b0] | (simp only [i64_w, i32_w]; rw [c42b0]) | skip)
          have H' := Aside0.mk H
          clear H
          go_wp2
          go_meet
          case rel => exact ⟨_, ((a1_0 == 3)), R_, H', ⟨by first | omega | exact Nat.le_refl _⟩, ⟨P_⟩, ⟨P_⟩, ⟨B_⟩⟩
        · rw [if_neg c42] at H
          have c42b0 : (a1_0 == 3) = false := beq_eq_false_iff_ne.mpr c42
          have c42b1 : (a1_0 != 3) = true := bne_iff_ne.mpr c42
          (first | rw [c42b0] | (simp only [i64_w, i32_w]; rw [c42b0]) | skip)
          have H' := Aside0.mk H
          clear H
          go_wp2
          go_meet
          case rel => exact ⟨_, ((a1_0 == 4)), R_, H', ⟨by first | omega | exact Nat.le_refl _⟩, ⟨P_⟩, ⟨P_⟩, ⟨B_⟩⟩
      case rest =>
        clear HC35
        try clear c1
        try clear c2
        try clear p2
        try clear c3
        try clear c3b0
        try clear c3b1
        try clear c4
        try clear c4b0
        try clear c7
        try clear c8
        try clear c15
        try clear c19
        try clear c19b0
        try clear c19b1
        try clear c20
        try clear c20b0
        try clear c24
        try clear c31
        try clear c39
        try clear c42
        try clear c42b0
        try clear c42b1
        try clear hcz10_0 hcz10_1 hcz10_2 hcz10_3 hcz10_4 hcz10_5 hfz10_0 hfz10_1 hfz10_2 hfz10_3 hfz10_4 hfz10_5
        try clear hcz13_0 hcz13_1 hcz13_2 hcz13_3 hcz13_4 hcz13_5 hfz13_0 hfz13_1 hfz13_2 hfz13_3 hfz13_4 hfz13_5
        try clear hcz16_0 hcz16_1 hcz16_2 hcz16_3 hcz16_4 hcz16_5 hfz16_0 hfz16_1 hfz16_2 hfz16_3 hfz16_4 hfz16_5
        try clear hcz17_0 hcz17_1 hcz17_2 hcz17_3 hcz17_4 hcz17_5 hfz17_0 hfz17_1 hfz17_2 hfz17_3 hfz17_4 hfz17_5
        try clear hcz22_0 hcz22_1 hcz22_2 hcz22_3 hcz22_4 hcz22_5 hfz22_0 hfz22_1 hfz22_2 hfz22_3 hfz22_4 hfz22_5
        try clear hcz25_0 hcz25_1 hcz25_2 hcz25_3 hcz25_4 hcz25_5 hfz25_0 hfz25_1 hfz25_2 hfz25_3 hfz25_4 hfz25_5
        try clear hcz26_0 hcz26_1 hcz26_2 hcz26_3 hcz26_4 hcz26_5 hfz26_0 hfz26_1 hfz26_2 hfz26_3 hfz26_4 hfz26_5
        try clear hcz29_0 hcz29_1 hcz29_2 hcz29_3 hcz29_4 hcz29_5 hfz29_0 hfz29_1 hfz29_2 hfz29_3 hfz29_4 hfz29_5
        try clear hcz32_0 hcz32_1 hcz32_2 hcz32_3 hcz32_4 hcz32_5 hfz32_0 hfz32_1 hfz32_2 hfz32_3 hfz32_4 hfz32_5
        try clear hcz33_0 hcz33_1 hcz33_2 hcz33_3 hcz33_4 hcz33_5 hfz33_0 hfz33_1 hfz33_2 hfz33_3 hfz33_4 hfz33_5
        try clear hcz37_0 hcz37_1 hcz37_2 hcz37_3 hcz37_4 hcz37_5 hfz37_0 hfz37_1 hfz37_2 hfz37_3 hfz37_4 hfz37_5
        try clear hcz40_0 hcz40_1 hcz40_2 hcz40_3 hcz40_4 hcz40_5 hfz40_0 hfz40_1 hfz40_2 hfz40_3 hfz40_4 hfz40_5
        try clear hcz41_0 hcz41_1 hcz41_2 hcz41_3 hcz41_4 hcz41_5 hfz41_0 hfz41_1 hfz41_2 hfz41_3 hfz41_4 hfz41_5
        try clear hcz6_0 hcz6_1 hcz6_2 hcz6_3 hcz6_4 hcz6_5 hfz6_0 hfz6_1 hfz6_2 hfz6_3 hfz6_4 hfz6_5
        try clear hcz9_0 hcz9_1 hcz9_2 hcz9_3 hcz9_4 hcz9_5 hfz9_0 hfz9_1 hfz9_2 hfz9_3 hfz9_4 hfz9_5
        obtain ⟨kq, x21_34, rfl, HA, HJ34, BK151, BK152, HB⟩ := hcut
        cases kq with
        | zero => exact absurd HA.out (by simp [pool_wrong.j0])
        | succ kj34 =>
          have H := HA.out
          clear HA
          simp only [pool_wrong.j0] at H
          by_cases c43 : x21_34 = true
          · subst c43
            have H1 : (if (!(a1_0 == a1_0) || (!(a1_1.toList == (⟨#[]⟩ : ByteArray).toList) || (!(a1_2 == 0) || (!(a1_4 == 0) || (!(a1_5 == 0)))))) = true then (some 1) else ((pool_uses.f kj34 l0 a1_0 a1_1 a1_2 a1_3 a1_4 a1_5).bind fun t155 => (some t155))) = some r := by rw [if_pos rfl] at H; exact H
            clear H
            have H := H1
            clear H1
            by_cases c44 : (!(a1_0 == a1_0) || (!(a1_1.toList == (⟨#[]⟩ : ByteArray).toList) || (!(a1_2 == 0) || (!(a1_4 == 0) || (!(a1_5 == 0)))))) = true
            · rw [if_pos c44] at H
              have c44b0 : (!(a1_0 == a1_0) || (!(a1_1.toList == (⟨#[]⟩ : ByteArray).toList) || (!(a1_2 == 0) || (!(a1_4 == 0) || (!(a1_5 == 0)))))) = true := c44
              clear c44
              obtain rfl := Option.some.inj H
              have hnb45 := NB151_152.out
              have hnc45 := NB152_151.out
              obtain ⟨hcz46_0, hcz46_1, hcz46_2, hcz46_3, hcz46_4, hcz46_5, hfz46_0, hfz46_1, hfz46_2, hfz46_3, hfz46_4, hfz46_5⟩ := c6_ BK151.out
              obtain ⟨hcz47_0, hcz47_1, hcz47_2, hcz47_3, hcz47_4, hcz47_5, hfz47_0, hfz47_1, hfz47_2, hfz47_3, hfz47_4, hfz47_5⟩ := c6_ BK152.out
              have heq_ : ∀ (d : Nat) (w : World), (Op.equalIn (d + 2) 50 (.agg #[.int .i64 a1_0, .string a1_1, .int .i64 a1_2, .int .i64 a1_3, .int .i64 a1_4, .int .i64 a1_5]) (.agg #[.int .i64 a1_0, .string (⟨#[]⟩ : ByteArray), .int .i64 0, .int .i64 a1_3, .int .i64 0, .int .i64 0])).run Tryd.prog w = .ok false w := fun d w => (eqA50 d w a1_0 a1_0 a1_1 (⟨#[]⟩ : ByteArray) a1_2 0 a1_3 a1_3 a1_4 0 a1_5 0).trans (congrArg (fun b => Result.ok b w) (by have hc_ := c44b0; have ht_ : (⟨#[]⟩ : ByteArray).toList = ([] : List UInt8) := (ByteArray.toList_eq _).trans rfl; (try rw [ht_] at hc_); (try rw [ht_]); revert hc_; cases (a1_1.toList == ([] : List UInt8)) <;> cases (a1_2 == (0 : Int)) <;> cases (a1_4 == (0 : Int)) <;> cases (a1_5 == (0 : Int)) <;> simp))
              go_wp2
              go_ret
              exact ⟨E_, B_⟩
            · rw [if_neg c44] at H
              have c44b0 : (!(a1_0 == a1_0) || (!(a1_1.toList == (⟨#[]⟩ : ByteArray).toList) || (!(a1_2 == 0) || (!(a1_4 == 0) || (!(a1_5 == 0)))))) = false := by simpa using c44
              clear c44
              replace H := Option.bind_eq_some_iff.mp H
              obtain ⟨t155, A480, H⟩ := H
              replace H : (some t155) = some r := H
              have A48 := Aside0.mk A480
              clear A480
              obtain rfl := Option.some.inj H
              have hnb49 := NB151_152.out
              have hnc49 := NB152_151.out
              obtain ⟨hcz50_0, hcz50_1, hcz50_2, hcz50_3, hcz50_4, hcz50_5, hfz50_0, hfz50_1, hfz50_2, hfz50_3, hfz50_4, hfz50_5⟩ := c6_ BK151.out
              obtain ⟨hcz51_0, hcz51_1, hcz51_2, hcz51_3, hcz51_4, hcz51_5, hfz51_0, hfz51_1, hfz51_2, hfz51_3, hfz51_4, hfz51_5⟩ := c6_ BK152.out
              have heq_ : ∀ (d : Nat) (w : World), (Op.equalIn (d + 2) 50 (.agg #[.int .i64 a1_0, .string a1_1, .int .i64 a1_2, .int .i64 a1_3, .int .i64 a1_4, .int .i64 a1_5]) (.agg #[.int .i64 a1_0, .string (⟨#[]⟩ : ByteArray), .int .i64 0, .int .i64 a1_3, .int .i64 0, .int .i64 0])).run Tryd.prog w = .ok true w := fun d w => (eqA50 d w a1_0 a1_0 a1_1 (⟨#[]⟩ : ByteArray) a1_2 0 a1_3 a1_3 a1_4 0 a1_5 0).trans (congrArg (fun b => Result.ok b w) (by have hc_ := c44b0; have ht_ : (⟨#[]⟩ : ByteArray).toList = ([] : List UInt8) := (ByteArray.toList_eq _).trans rfl; (try rw [ht_] at hc_); (try rw [ht_]); revert hc_; cases (a1_1.toList == ([] : List UInt8)) <;> cases (a1_2 == (0 : Int)) <;> cases (a1_4 == (0 : Int)) <;> cases (a1_5 == (0 : Int)) <;> simp))
              go_wp2_with (first | ((with_reducible refine gt_ 77 ?_); refine gd_ 44 Tryd.func77 (pool_uses.calls kj34 _ _ l0 a1_0 a1_1 a1_2 a1_3 a1_4 a1_5 t155 _ (Kd.C_below HR0.out B_) HC0.out A48.out) ?_; intro w52 hb; have BK151 := Aside0.mk (blk_below (g := gb151) (o := .cells #[.int .i64 a1_0, .string a1_1, .int .i64 a1_2, .int .i64 a1_3, .int .i64 a1_4, .int .i64 a1_5] 50 (0, 0)) P_ hb); have BK152 := Aside0.mk (blk_below (g := gb152) (o := .cells #[.int .i64 a1_0, .string (⟨#[]⟩ : ByteArray), .int .i64 0, .int .i64 a1_3, .int .i64 0, .int .i64 0] 50 (0, 0)) P_ hb); have HB := bs_ hb; (try clear hb); (try clear hb2); (try clear hk); (try clear hi)))
              go_ret
              exact ⟨E_, B_⟩
          · replace c43 := Bool.eq_false_iff.mpr c43
            subst c43
            have H1 : (if a1_0 = 5 then (pool_wrong.j1 kj34 l0 (a1_0 == 5) a1_0 a1_1 a1_2 a1_3 a1_4 a1_5 a1_0 (⟨#[]⟩ : ByteArray) 0 0 0 0) else (pool_wrong.j1 kj34 l0 (a1_0 == 6) a1_0 a1_1 a1_2 a1_3 a1_4 a1_5 a1_0 (⟨#[]⟩ : ByteArray) 0 0 0 0)) = some r := by rw [if_neg (show ¬ (false = true) by decide)] at H; exact H
            clear H
            have H := H1
            clear H1
            have HC53 := Aside0.mk H
            clear H
            go_upto_if 27 with (fail)
            go_cut [27] (fun v27 wc => ∃ (kq : Nat) (x27_52 : Bool), v27 = .bool x27_52 ∧ Aside0 (pool_wrong.j1 kq l0 x27_52 a1_0 a1_1 a1_2 a1_3 a1_4 a1_5 a1_0 (⟨#[]⟩ : ByteArray) 0 0 0 0 = some r) ∧ Aside0 (kq ≤ kj34) ∧ Aside0 (wc.heap[gb151]? = some (.cells #[.int .i64 a1_0, .string a1_1, .int .i64 a1_2, .int .i64 a1_3, .int .i64 a1_4, .int .i64 a1_5] 50 (0, 0))) ∧ Aside0 (wc.heap[gb152]? = some (.cells #[.int .i64 a1_0, .string (⟨#[]⟩ : ByteArray), .int .i64 0, .int .i64 0, .int .i64 0, .int .i64 0] 50 (0, 0))) ∧ Aside0 (Below w.heap.size w wc))
            case first =>
              have H := HC53.out
              clear HC53
              by_cases c54 : a1_0 = 5
              · rw [if_pos c54] at H
                have c54b0 : (a1_0 == 5) = true := beq_iff_eq.mpr c54
                have c54b1 : (a1_0 != 5) = false := bne_eq_false_iff_eq.mpr c54
                clear c54
                (first | rw [c54b0] | (simp only [i64_w, i32_w]; rw [c54b0]) | skip)
                have H' := Aside0.mk H
                clear H
                go_wp2
                go_meet
                case rel => exact ⟨_, ((a1_0 == 5)), R_, H', ⟨by have := HJ34.out; first | omega | exact Nat.le_refl _⟩, ⟨M_⟩, ⟨M_⟩, ⟨B_⟩⟩
              · rw [if_neg c54] at H
                have c54b0 : (a1_0 == 5) = false := beq_eq_false_iff_ne.mpr c54
                have c54b1 : (a1_0 != 5) = true := bne_iff_ne.mpr c54
                (first | rw [c54b0] | (simp only [i64_w, i32_w]; rw [c54b0]) | skip)
                have H' := Aside0.mk H
                clear H
                go_wp2
                go_meet
                case rel => exact ⟨_, ((a1_0 == 6)), R_, H', ⟨by have := HJ34.out; first | omega | exact Nat.le_refl _⟩, ⟨M_⟩, ⟨M_⟩, ⟨B_⟩⟩
            case rest =>
              clear HC53
              try clear c1
              try clear c2
              try clear p2
              try clear c3
              try clear c3b0
              try clear c3b1
              try clear c4
              try clear c4b0
              try clear c5
              try clear c7
              try clear c8
              try clear c15
              try clear c19
              try clear c19b0
              try clear c19b1
              try clear c20
              try clear c20b0
              try clear c24
              try clear c31
              try clear c39
              try clear c42
              try clear c42b0
              try clear c42b1
              try clear c43
              try clear c44
              try clear c44b0
              try clear c45
              try clear c49
              try clear c54
              try clear c54b0
              try clear c54b1
              try clear hcz10_0 hcz10_1 hcz10_2 hcz10_3 hcz10_4 hcz10_5 hfz10_0 hfz10_1 hfz10_2 hfz10_3 hfz10_4 hfz10_5
              try clear hcz13_0 hcz13_1 hcz13_2 hcz13_3 hcz13_4 hcz13_5 hfz13_0 hfz13_1 hfz13_2 hfz13_3 hfz13_4 hfz13_5
              try clear hcz16_0 hcz16_1 hcz16_2 hcz16_3 hcz16_4 hcz16_5 hfz16_0 hfz16_1 hfz16_2 hfz16_3 hfz16_4 hfz16_5
              try clear hcz17_0 hcz17_1 hcz17_2 hcz17_3 hcz17_4 hcz17_5 hfz17_0 hfz17_1 hfz17_2 hfz17_3 hfz17_4 hfz17_5
              try clear hcz22_0 hcz22_1 hcz22_2 hcz22_3 hcz22_4 hcz22_5 hfz22_0 hfz22_1 hfz22_2 hfz22_3 hfz22_4 hfz22_5
              try clear hcz25_0 hcz25_1 hcz25_2 hcz25_3 hcz25_4 hcz25_5 hfz25_0 hfz25_1 hfz25_2 hfz25_3 hfz25_4 hfz25_5
              try clear hcz26_0 hcz26_1 hcz26_2 hcz26_3 hcz26_4 hcz26_5 hfz26_0 hfz26_1 hfz26_2 hfz26_3 hfz26_4 hfz26_5
              try clear hcz29_0 hcz29_1 hcz29_2 hcz29_3 hcz29_4 hcz29_5 hfz29_0 hfz29_1 hfz29_2 hfz29_3 hfz29_4 hfz29_5
              try clear hcz32_0 hcz32_1 hcz32_2 hcz32_3 hcz32_4 hcz32_5 hfz32_0 hfz32_1 hfz32_2 hfz32_3 hfz32_4 hfz32_5
              try clear hcz33_0 hcz33_1 hcz33_2 hcz33_3 hcz33_4 hcz33_5 hfz33_0 hfz33_1 hfz33_2 hfz33_3 hfz33_4 hfz33_5
              try clear hcz37_0 hcz37_1 hcz37_2 hcz37_3 hcz37_4 hcz37_5 hfz37_0 hfz37_1 hfz37_2 hfz37_3 hfz37_4 hfz37_5
              try clear hcz40_0 hcz40_1 hcz40_2 hcz40_3 hcz40_4 hcz40_5 hfz40_0 hfz40_1 hfz40_2 hfz40_3 hfz40_4 hfz40_5
              try clear hcz41_0 hcz41_1 hcz41_2 hcz41_3 hcz41_4 hcz41_5 hfz41_0 hfz41_1 hfz41_2 hfz41_3 hfz41_4 hfz41_5
              try clear hcz46_0 hcz46_1 hcz46_2 hcz46_3 hcz46_4 hcz46_5 hfz46_0 hfz46_1 hfz46_2 hfz46_3 hfz46_4 hfz46_5
              try clear hcz47_0 hcz47_1 hcz47_2 hcz47_3 hcz47_4 hcz47_5 hfz47_0 hfz47_1 hfz47_2 hfz47_3 hfz47_4 hfz47_5
              try clear hcz50_0 hcz50_1 hcz50_2 hcz50_3 hcz50_4 hcz50_5 hfz50_0 hfz50_1 hfz50_2 hfz50_3 hfz50_4 hfz50_5
              try clear hcz51_0 hcz51_1 hcz51_2 hcz51_3 hcz51_4 hcz51_5 hfz51_0 hfz51_1 hfz51_2 hfz51_3 hfz51_4 hfz51_5
              try clear hcz6_0 hcz6_1 hcz6_2 hcz6_3 hcz6_4 hcz6_5 hfz6_0 hfz6_1 hfz6_2 hfz6_3 hfz6_4 hfz6_5
              try clear hcz9_0 hcz9_1 hcz9_2 hcz9_3 hcz9_4 hcz9_5 hfz9_0 hfz9_1 hfz9_2 hfz9_3 hfz9_4 hfz9_5
              try clear p2
              obtain ⟨kq, x27_52, rfl, HA, HJ52, BK151, BK152, HB⟩ := hcut
              cases kq with
              | zero => exact absurd HA.out (by simp [pool_wrong.j1])
              | succ kj52 =>
                have H := HA.out
                clear HA
                simp only [pool_wrong.j1] at H
                by_cases c55 : x27_52 = true
                · subst c55
                  have H1 : (if (!(a1_0 == a1_0) || (!(a1_1.toList == (⟨#[]⟩ : ByteArray).toList) || (!(a1_2 == 0)))) = true then (some 1) else ((pool_uses.f kj52 l0 a1_0 a1_1 a1_2 a1_3 a1_4 a1_5).bind fun t156 => (some t156))) = some r := by rw [if_pos rfl] at H; exact H
                  clear H
                  have H := H1
                  clear H1
                  by_cases c56 : (!(a1_0 == a1_0) || (!(a1_1.toList == (⟨#[]⟩ : ByteArray).toList) || (!(a1_2 == 0)))) = true
                  · rw [if_pos c56] at H
                    have c56b0 : (!(a1_0 == a1_0) || (!(a1_1.toList == (⟨#[]⟩ : ByteArray).toList) || (!(a1_2 == 0)))) = true := c56
                    clear c56
                    obtain rfl := Option.some.inj H
                    try go_wp2
                    have n0_ := Aside0.mk (blk_drew BK151.out)
                    have n1_ := Aside0.mk (blk_drew BK152.out)
                    have n2_ := Aside0.mk (below_drew1 HB.out)
                    clear BK151
                    clear BK152
                    clear HB
                    have BK151 := n0_
                    have BK152 := n1_
                    have HB := n2_
                    clear n0_ n1_ n2_
                    refine start_ (n := 12) (S := fun w' => w'.cell? ⟨gb151, 0, none⟩ = some (.int .i64 a1_0) ∧ w'.cell? ⟨gb151, 1, none⟩ = some (.string a1_1) ∧ w'.cell? ⟨gb151, 2, none⟩ = some (.int .i64 a1_2) ∧ w'.cell? ⟨gb151, 3, none⟩ = some (.int .i64 a1_3) ∧ w'.cell? ⟨gb151, 4, none⟩ = some (.int .i64 a1_4) ∧ w'.cell? ⟨gb151, 5, none⟩ = some (.int .i64 a1_5)) (ds := []) #[false, false, false, false, false, false, false, false, false, false, false, false] (by kernel_rfl) rfl rfl ⟨(blk_cell BK151.out 0).trans rfl, (blk_cell BK151.out 1).trans rfl, (blk_cell BK151.out 2).trans rfl, (blk_cell BK151.out 3).trans rfl, (blk_cell BK151.out 4).trans rfl, (blk_cell BK151.out 5).trans rfl⟩ (fun hHeld => ?_); refine with_tabW pool_wrong.tab13 pool_wrong.bits13 (fun HT_ HW_ => ?_)
                    generalize wc.drew = w57 at BK151 BK152 HB hHeld ⊢
                    refine u_ 0 30 (bb 12 1) ?_
                    refine u_ 2 32 (bb 12 5) ?_
                    refine u_ 4 34 (bb 12 21) ?_
                    refine t_ 1 31 (bb 12 23) ?_
                    refine u_ 6 36 (bb 12 87) ?_
                    refine t_ 3 33 (bb 12 95) ?_
                    refine t_ 5 35 (bb 12 127) ?_
                    refine one_ (i := 7) (N := none) #[true, true, true, true, true, true, true, true, false, false, false, false] rfl rfl (one_of HT_.out (by kernel_rfl)) (by decide) (fun K hK => ?_)
                    have hs58 : w57.cell? ⟨gb152, 3, none⟩ = some (.int .i64 0) := (blk_cell BK152.out 3).trans rfl
                    have hfs58 := blk_frozen BK152.out 3
                    have hns58_0 := NB151_152.out
                    have hms58_0 := NB152_151.out
                    refine skip_ (w1 := ?_) (by rfl) rfl ?_ ?_
                    rotate_left
                    · go_simp
                      rfl
                    refine hK.out _ _ (S_ hHeld) (fun hHeld => ?_)
                    clear hK K
                    refine u_ 8 37 (bb 12 511) ?_
                    refine one_ (i := 9) (N := none) #[true, true, true, true, true, true, true, true, true, true, false, false] rfl rfl (one_of HT_.out (by kernel_rfl)) (by decide) (fun K hK => ?_)
                    have hs59 : w57.cell? ⟨gb152, 4, none⟩ = some (.int .i64 0) := (blk_cell BK152.out 4).trans rfl
                    have hfs59 := blk_frozen BK152.out 4
                    have hns59_0 := NB151_152.out
                    have hms59_0 := NB152_151.out
                    refine skip_ (w1 := ?_) (by rfl) rfl ?_ ?_
                    rotate_left
                    · go_simp
                      rfl
                    refine hK.out _ _ (S_ hHeld) (fun hHeld => ?_)
                    clear hK K
                    refine u_ 10 38 (bb 12 2047) ?_
                    refine one_ (i := 11) (N := none) #[true, true, true, true, true, true, true, true, true, true, true, true] rfl rfl (one_of HT_.out (by kernel_rfl)) (by decide) (fun K hK => ?_)
                    have hs60 : w57.cell? ⟨gb152, 5, none⟩ = some (.int .i64 0) := (blk_cell BK152.out 5).trans rfl
                    have hfs60 := blk_frozen BK152.out 5
                    have hns60_0 := NB151_152.out
                    have hms60_0 := NB152_151.out
                    refine skip_ (w1 := ?_) (by rfl) rfl ?_ ?_
                    rotate_left
                    · go_simp
                      rfl
                    refine hK.out _ _ (S_ hHeld) (fun hHeld => ?_)
                    clear hK K
                    refine done_ (done_of HT_.out (by kernel_rfl)) ?_
                    have hnb61 := NB151_152.out
                    have hnc61 := NB152_151.out
                    obtain ⟨hcz62_0, hcz62_1, hcz62_2, hcz62_3, hcz62_4, hcz62_5, hfz62_0, hfz62_1, hfz62_2, hfz62_3, hfz62_4, hfz62_5⟩ := c6_ BK151.out
                    obtain ⟨hcz63_0, hcz63_1, hcz63_2, hcz63_3, hcz63_4, hcz63_5, hfz63_0, hfz63_1, hfz63_2, hfz63_3, hfz63_4, hfz63_5⟩ := c6_ BK152.out
                    have heq_ : ∀ (d : Nat) (w : World), (Op.equalIn (d + 2) 50 (.agg #[.int .i64 a1_0, .string a1_1, .int .i64 a1_2, .int .i64 a1_3, .int .i64 a1_4, .int .i64 a1_5]) (.agg #[.int .i64 a1_0, .string (⟨#[]⟩ : ByteArray), .int .i64 0, .int .i64 a1_3, .int .i64 a1_4, .int .i64 a1_5])).run Tryd.prog w = .ok false w := fun d w => (eqA50 d w a1_0 a1_0 a1_1 (⟨#[]⟩ : ByteArray) a1_2 0 a1_3 a1_3 a1_4 a1_4 a1_5 a1_5).trans (congrArg (fun b => Result.ok b w) (by have hc_ := c56b0; have ht_ : (⟨#[]⟩ : ByteArray).toList = ([] : List UInt8) := (ByteArray.toList_eq _).trans rfl; (try rw [ht_] at hc_); (try rw [ht_]); revert hc_; cases (a1_1.toList == ([] : List UInt8)) <;> cases (a1_2 == (0 : Int)) <;> simp))
                    try go_wp2
                    go_ret
                    exact ⟨E_, B_⟩
                  · rw [if_neg c56] at H
                    have c56b0 : (!(a1_0 == a1_0) || (!(a1_1.toList == (⟨#[]⟩ : ByteArray).toList) || (!(a1_2 == 0)))) = false := by simpa using c56
                    clear c56
                    replace H := Option.bind_eq_some_iff.mp H
                    obtain ⟨t156, A640, H⟩ := H
                    replace H : (some t156) = some r := H
                    have A64 := Aside0.mk A640
                    clear A640
                    obtain rfl := Option.some.inj H
                    try go_wp2
                    have n0_ := Aside0.mk (blk_drew BK151.out)
                    have n1_ := Aside0.mk (blk_drew BK152.out)
                    have n2_ := Aside0.mk (below_drew1 HB.out)
                    clear BK151
                    clear BK152
                    clear HB
                    have BK151 := n0_
                    have BK152 := n1_
                    have HB := n2_
                    clear n0_ n1_ n2_
                    refine start_ (n := 12) (S := fun w' => w'.cell? ⟨gb151, 0, none⟩ = some (.int .i64 a1_0) ∧ w'.cell? ⟨gb151, 1, none⟩ = some (.string a1_1) ∧ w'.cell? ⟨gb151, 2, none⟩ = some (.int .i64 a1_2) ∧ w'.cell? ⟨gb151, 3, none⟩ = some (.int .i64 a1_3) ∧ w'.cell? ⟨gb151, 4, none⟩ = some (.int .i64 a1_4) ∧ w'.cell? ⟨gb151, 5, none⟩ = some (.int .i64 a1_5)) (ds := []) #[false, false, false, false, false, false, false, false, false, false, false, false] (by kernel_rfl) rfl rfl ⟨(blk_cell BK151.out 0).trans rfl, (blk_cell BK151.out 1).trans rfl, (blk_cell BK151.out 2).trans rfl, (blk_cell BK151.out 3).trans rfl, (blk_cell BK151.out 4).trans rfl, (blk_cell BK151.out 5).trans rfl⟩ (fun hHeld => ?_); refine with_tabW pool_wrong.tab13 pool_wrong.bits13 (fun HT_ HW_ => ?_)
                    generalize wc.drew = w65 at BK151 BK152 HB hHeld ⊢
                    refine u_ 0 30 (bb 12 1) ?_
                    refine u_ 2 32 (bb 12 5) ?_
                    refine u_ 4 34 (bb 12 21) ?_
                    refine t_ 1 31 (bb 12 23) ?_
                    refine u_ 6 36 (bb 12 87) ?_
                    refine t_ 3 33 (bb 12 95) ?_
                    refine t_ 5 35 (bb 12 127) ?_
                    refine one_ (i := 7) (N := none) #[true, true, true, true, true, true, true, true, false, false, false, false] rfl rfl (one_of HT_.out (by kernel_rfl)) (by decide) (fun K hK => ?_)
                    have hs66 : w65.cell? ⟨gb152, 3, none⟩ = some (.int .i64 0) := (blk_cell BK152.out 3).trans rfl
                    have hfs66 := blk_frozen BK152.out 3
                    have hns66_0 := NB151_152.out
                    have hms66_0 := NB152_151.out
                    refine skip_ (w1 := ?_) (by rfl) rfl ?_ ?_
                    rotate_left
                    · go_simp
                      rfl
                    refine hK.out _ _ (S_ hHeld) (fun hHeld => ?_)
                    clear hK K
                    refine u_ 8 37 (bb 12 511) ?_
                    refine one_ (i := 9) (N := none) #[true, true, true, true, true, true, true, true, true, true, false, false] rfl rfl (one_of HT_.out (by kernel_rfl)) (by decide) (fun K hK => ?_)
                    have hs67 : w65.cell? ⟨gb152, 4, none⟩ = some (.int .i64 0) := (blk_cell BK152.out 4).trans rfl
                    have hfs67 := blk_frozen BK152.out 4
                    have hns67_0 := NB151_152.out
                    have hms67_0 := NB152_151.out
                    refine skip_ (w1 := ?_) (by rfl) rfl ?_ ?_
                    rotate_left
                    · go_simp
                      rfl
                    refine hK.out _ _ (S_ hHeld) (fun hHeld => ?_)
                    clear hK K
                    refine u_ 10 38 (bb 12 2047) ?_
                    refine one_ (i := 11) (N := none) #[true, true, true, true, true, true, true, true, true, true, true, true] rfl rfl (one_of HT_.out (by kernel_rfl)) (by decide) (fun K hK => ?_)
                    have hs68 : w65.cell? ⟨gb152, 5, none⟩ = some (.int .i64 0) := (blk_cell BK152.out 5).trans rfl
                    have hfs68 := blk_frozen BK152.out 5
                    have hns68_0 := NB151_152.out
                    have hms68_0 := NB152_151.out
                    refine skip_ (w1 := ?_) (by rfl) rfl ?_ ?_
                    rotate_left
                    · go_simp
                      rfl
                    refine hK.out _ _ (S_ hHeld) (fun hHeld => ?_)
                    clear hK K
                    refine done_ (done_of HT_.out (by kernel_rfl)) ?_
                    have hnb69 := NB151_152.out
                    have hnc69 := NB152_151.out
                    obtain ⟨hcz70_0, hcz70_1, hcz70_2, hcz70_3, hcz70_4, hcz70_5, hfz70_0, hfz70_1, hfz70_2, hfz70_3, hfz70_4, hfz70_5⟩ := c6_ BK151.out
                    obtain ⟨hcz71_0, hcz71_1, hcz71_2, hcz71_3, hcz71_4, hcz71_5, hfz71_0, hfz71_1, hfz71_2, hfz71_3, hfz71_4, hfz71_5⟩ := c6_ BK152.out
                    have heq_ : ∀ (d : Nat) (w : World), (Op.equalIn (d + 2) 50 (.agg #[.int .i64 a1_0, .string a1_1, .int .i64 a1_2, .int .i64 a1_3, .int .i64 a1_4, .int .i64 a1_5]) (.agg #[.int .i64 a1_0, .string (⟨#[]⟩ : ByteArray), .int .i64 0, .int .i64 a1_3, .int .i64 a1_4, .int .i64 a1_5])).run Tryd.prog w = .ok true w := fun d w => (eqA50 d w a1_0 a1_0 a1_1 (⟨#[]⟩ : ByteArray) a1_2 0 a1_3 a1_3 a1_4 a1_4 a1_5 a1_5).trans (congrArg (fun b => Result.ok b w) (by have hc_ := c56b0; have ht_ : (⟨#[]⟩ : ByteArray).toList = ([] : List UInt8) := (ByteArray.toList_eq _).trans rfl; (try rw [ht_] at hc_); (try rw [ht_]); revert hc_; cases (a1_1.toList == ([] : List UInt8)) <;> cases (a1_2 == (0 : Int)) <;> simp))
                    try go_wp2_with (first | ((with_reducible refine gt_ 77 ?_); refine gd_ 44 Tryd.func77 (pool_uses.calls kj52 _ _ l0 a1_0 a1_1 a1_2 a1_3 a1_4 a1_5 t156 _ (Kd.C_below HR0.out B_) HC0.out A64.out) ?_; intro w72 hb; have BK151 := Aside0.mk (blk_below (g := gb151) (o := .cells #[.int .i64 a1_0, .string a1_1, .int .i64 a1_2, .int .i64 a1_3, .int .i64 a1_4, .int .i64 a1_5] 50 (0, 0)) P_ hb); have BK152 := Aside0.mk (blk_below (g := gb152) (o := .cells #[.int .i64 a1_0, .string (⟨#[]⟩ : ByteArray), .int .i64 0, .int .i64 a1_3, .int .i64 a1_4, .int .i64 a1_5] 50 (0, 0)) P_ hb); have HB := bs_ hb; (try clear hb); (try clear hb2); (try clear hk); (try clear hi)))
                    go_ret
                    exact ⟨E_, B_⟩
                · replace c55 := Bool.eq_false_iff.mpr c55
                  subst c55
                  have H1 : (some 3) = some r := by rw [if_neg (show ¬ (false = true) by decide)] at H; exact H
                  clear H
                  have H := H1
                  clear H1
                  obtain rfl := Option.some.inj H
                  go_wp2
                  go_ret
                  exact ⟨E_, B_⟩
def pool_Check.l0 : Nat → List (S50) → List (S50) → Int → Int → Option (Int × Int)
  | 0, _, _, _, _ => none
  | k + 1, x0, x10, x11, x12 => if x12 < x11 then (if 0 ≤ x12 then (if x12 < (x10.length : Int) then ((pool_wrong.f k x0 ((rd_T50 x10 x12).f0) ((rd_T50 x10 x12).f1) ((rd_T50 x10 x12).f2) ((rd_T50 x10 x12).f3) ((rd_T50 x10 x12).f4) ((rd_T50 x10 x12).f5)).bind fun t159 => (if t159 = 0 then (pool_Check.l0 k x0 x10 x11 (wrap64 (x12 + 1))) else (some (x12, t159)))) else (none)) else (none)) else (some (0, 0))
def pool_Check.f (k : Nat) (l0 : List (S50)) : Option (Int × Int) := if (l0.length : Int) > 4096 then (some (4096, 4)) else (pool_Check.l0 k l0 l0 (l0.length : Int) 0)
set_option maxHeartbeats 8000000 in
set_option maxRecDepth 100000 in
theorem pool_Check.calls (k : Nat) (A0 : Option Addr) (c0 : Nat) (l0 : List (S50)) (r1 : Int) (r2 : Int) (w : World) (hr0 : Kd.C k50 w A0 l0.length l0) (hc0 : l0.length ≤ c0) (h : pool_Check.f k l0 = some (r1, r2)) :
    Calls Tryd.prog 15 #[.slice A0 l0.length c0] w fun e w' => e = .returned (.tuple #[.int .i64 r1, .int .i64 r2]) ∧ Below w.heap.size w w' := by
  have hu50 := Tryd.underlying50
  have HR0 := Aside0.mk hr0
  have HC0 := Aside0.mk hc0
  clear hr0 hc0
  have HB := Aside0.mk (Below.refl w.heap.size w)
  have H : (if (l0.length : Int) > 4096 then (some (4096, 4)) else (pool_Check.l0 k l0 l0 (l0.length : Int) 0)) = some (r1, r2) := h
  clear h
  by_cases c2 : (l0.length : Int) > 4096
  · rw [if_pos c2] at H
    have c2b0 : decide (4096 < (l0.length : Int)) = true := decide_eq_true c2
    have c2b1 : decide (4096 < l0.length) = true := decide_eq_true (by omega)
    clear c2
    simp only [Option.some.injEq, Prod.mk.injEq] at H
    obtain ⟨rfl, rfl⟩ := H
    go_enter Tryd.func15, Tryd.ntmps15
    go_wp2
    go_ret2
    exact ⟨E_, B_⟩
  · rw [if_neg c2] at H
    have c2b0 : decide (4096 < (l0.length : Int)) = false := decide_eq_false c2
    have c2b1 : decide (4096 < l0.length) = false := decide_eq_false (by omega)
    clear c2
    have H' := Aside0.mk H
    clear H
    go_enter Tryd.func15, Tryd.ntmps15
    go_wp2
    go_loopg [12] k (fun kq v12 w' => ∃ (x12_1 : Int), v12 = .int .i64 x12_1 ∧ Aside0 (pool_Check.l0 kq l0 l0 (l0.length : Int) x12_1 = some (r1, r2)) ∧ Aside0 (kq ≤ k) ∧ Aside0 (Below w.heap.size w w'))
    case atStart => exact ⟨(0), R_, H', ⟨Nat.le_refl _⟩, ⟨B_⟩⟩
    case round =>
      clear H'
      try clear c1
      try clear c2
      try clear c2b0
      try clear c2b1
      try clear p2
      obtain ⟨x12_1, rfl, HA, HK1, HB⟩ := hrel
      cases gk with
      | zero => exact absurd HA.out (by simp [pool_Check.l0])
      | succ k1 =>
        have H := HA.out
        clear HA
        simp only [pool_Check.l0] at H
        by_cases c3 : x12_1 < (l0.length : Int)
        · rw [if_pos c3] at H
          have c3b0 : decide (x12_1 < (l0.length : Int)) = true := decide_eq_true c3
          clear c3
          by_cases c4 : 0 ≤ x12_1
          · rw [if_pos c4] at H
            have c4b0 : decide (0 ≤ x12_1) = true := decide_eq_true c4
            clear c4
            by_cases c5 : x12_1 < (l0.length : Int)
            · rw [if_pos c5] at H
              have c5b0 : decide (x12_1 < (l0.length : Int)) = true := decide_eq_true c5
              clear c5
              replace H := Option.bind_eq_some_iff.mp H
              obtain ⟨t159, A60, H⟩ := H
              replace H : (if t159 = 0 then (pool_Check.l0 k1 l0 l0 (l0.length : Int) (wrap64 (x12_1 + 1))) else (some (x12_1, t159))) = some (r1, r2) := H
              have A6 := Aside0.mk A60
              clear A60
              by_cases c7 : t159 = 0
              · rw [if_pos c7] at H
                have c7b0 : (t159 == 0) = true := beq_iff_eq.mpr c7
                have c7b1 : (t159 != 0) = false := bne_eq_false_iff_eq.mpr c7
                clear c7
                have H' := Aside0.mk H
                clear H
                have p157 : 0 ≤ (x12_1 : Int) := of_decide_eq_true A_
                have q157 : x12_1 < (l0.length : Int) := of_decide_eq_true A_
                obtain ⟨ad157, e157, hx157_0, hx157_1, hx157_2, hx157_3, hx157_4, hx157_5⟩ := at_T50 HR0.out x12_1 p157 q157
                cases e157
                replace hx157_0 := h_ HB hx157_0
                replace hx157_1 := h_ HB hx157_1
                replace hx157_2 := h_ HB hx157_2
                replace hx157_3 := h_ HB hx157_3
                replace hx157_4 := h_ HB hx157_4
                replace hx157_5 := h_ HB hx157_5
                replace p157 := eq_true p157
                replace q157 := eq_true q157
                go_wp2_with (first | ((with_reducible refine d_ 5 ?_); refine X_ 5 #[.int .i64 0, .string (⟨#[]⟩ : ByteArray), .int .i64 0, .int .i64 0, .int .i64 0, .int .i64 0] 50 ?_; intro gb158 hg w8 hbox hb; have BK158 := Aside0.mk hbox; have GW158 := Aside0.mk (s_ hg); have GE158 := GW158; have HB := bs_ hb; clear hb hbox hg; obtain ⟨hcz9_0, hcz9_1, hcz9_2, hcz9_3, hcz9_4, hcz9_5, hfz9_0, hfz9_1, hfz9_2, hfz9_3, hfz9_4, hfz9_5⟩ := c6_ BK158.out) | ((with_reducible refine gt_ 39 ?_); refine gd_ 19 Tryd.func39 (pool_wrong.calls k1 _ _ l0 ((rd_T50 l0 x12_1).f0) ((rd_T50 l0 x12_1).f1) ((rd_T50 l0 x12_1).f2) ((rd_T50 l0 x12_1).f3) ((rd_T50 l0 x12_1).f4) ((rd_T50 l0 x12_1).f5) t159 _ (Kd.C_below HR0.out B_) HC0.out A6.out) ?_; intro w10 hb; have BK158 := Aside0.mk (blk_below (g := gb158) (o := .cells #[.int .i64 ((rd_T50 l0 x12_1).f0), .string ((rd_T50 l0 x12_1).f1), .int .i64 ((rd_T50 l0 x12_1).f2), .int .i64 ((rd_T50 l0 x12_1).f3), .int .i64 ((rd_T50 l0 x12_1).f4), .int .i64 ((rd_T50 l0 x12_1).f5)] 50 (0, 0)) P_ hb); have HB := bs_ hb; (try clear hb); (try clear hb2); (try clear hk); (try clear hi)))
                go_roundg k1
                case measure => have := HK1.out; omega
                case rel => exact ⟨(wrap64 (x12_1 + 1)), R_, H', ⟨by have := HK1.out; omega⟩, ⟨B_⟩⟩
              · rw [if_neg c7] at H
                have c7b0 : (t159 == 0) = false := beq_eq_false_iff_ne.mpr c7
                have c7b1 : (t159 != 0) = true := bne_iff_ne.mpr c7
                simp only [Option.some.injEq, Prod.mk.injEq] at H
                obtain ⟨rfl, rfl⟩ := H
                have p157 : 0 ≤ (x12_1 : Int) := of_decide_eq_true A_
                have q157 : x12_1 < (l0.length : Int) := of_decide_eq_true A_
                obtain ⟨ad157, e157, hx157_0, hx157_1, hx157_2, hx157_3, hx157_4, hx157_5⟩ := at_T50 HR0.out x12_1 p157 q157
                cases e157
                replace hx157_0 := h_ HB hx157_0
                replace hx157_1 := h_ HB hx157_1
                replace hx157_2 := h_ HB hx157_2
                replace hx157_3 := h_ HB hx157_3
                replace hx157_4 := h_ HB hx157_4
                replace hx157_5 := h_ HB hx157_5
                replace p157 := eq_true p157
                replace q157 := eq_true q157
                go_wp2_with (first | ((with_reducible refine d_ 5 ?_); refine X_ 5 #[.int .i64 0, .string (⟨#[]⟩ : ByteArray), .int .i64 0, .int .i64 0, .int .i64 0, .int .i64 0] 50 ?_; intro gb158 hg w11 hbox hb; have BK158 := Aside0.mk hbox; have GW158 := Aside0.mk (s_ hg); have GE158 := GW158; have HB := bs_ hb; clear hb hbox hg; obtain ⟨hcz12_0, hcz12_1, hcz12_2, hcz12_3, hcz12_4, hcz12_5, hfz12_0, hfz12_1, hfz12_2, hfz12_3, hfz12_4, hfz12_5⟩ := c6_ BK158.out) | ((with_reducible refine gt_ 39 ?_); refine gd_ 19 Tryd.func39 (pool_wrong.calls k1 _ _ l0 ((rd_T50 l0 x12_1).f0) ((rd_T50 l0 x12_1).f1) ((rd_T50 l0 x12_1).f2) ((rd_T50 l0 x12_1).f3) ((rd_T50 l0 x12_1).f4) ((rd_T50 l0 x12_1).f5) t159 _ (Kd.C_below HR0.out B_) HC0.out A6.out) ?_; intro w13 hb; have BK158 := Aside0.mk (blk_below (g := gb158) (o := .cells #[.int .i64 ((rd_T50 l0 x12_1).f0), .string ((rd_T50 l0 x12_1).f1), .int .i64 ((rd_T50 l0 x12_1).f2), .int .i64 ((rd_T50 l0 x12_1).f3), .int .i64 ((rd_T50 l0 x12_1).f4), .int .i64 ((rd_T50 l0 x12_1).f5)] 50 (0, 0)) P_ hb); have HB := bs_ hb; (try clear hb); (try clear hb2); (try clear hk); (try clear hi)))
                go_ret2
                exact ⟨E_, B_⟩
            · rw [if_neg c5] at H
              exact absurd H (by simp)
          · rw [if_neg c4] at H
            exact absurd H (by simp)
        · rw [if_neg c3] at H
          have c3b0 : decide (x12_1 < (l0.length : Int)) = false := decide_eq_false c3
          clear c3
          simp only [Option.some.injEq, Prod.mk.injEq] at H
          obtain ⟨rfl, rfl⟩ := H
          go_wp2
          go_ret2
          exact ⟨E_, B_⟩
end Go.Proofs.YtldejfkplnejjaaDoor.P
