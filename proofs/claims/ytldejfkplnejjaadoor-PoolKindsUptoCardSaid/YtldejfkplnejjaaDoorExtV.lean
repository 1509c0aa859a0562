/- PoolKinds, walked. -/
import Derived.Test.YtldejfkplnejjaaDoorExtN
import Derived.Test.YtldejfkplnejjaaDoorP10
import Derived.Test.YtldejfkplnejjaaDoorP13
namespace Go.Proofs.YtldejfkplnejjaaDoor.P
open Go.Maps Go.WideMaps Go.MapKept
open Go.RowKit Go.Proofs.YtldejfkplnejjaaDoorW.PrintWords Go.Proofs.YtldejfkplnejjaaDoorW.PrintLast Go.Proofs.YtldejfkplnejjaaDoorW.PrintMore
set_option linter.unusedVariables false
set_option linter.unusedSimpArgs false
def er (kd w : Int) : Int := if kd = w then 0 else 16
def kindsAt (l : List S50) (i kd : Int) : Prop := ∃ (k : Nat) (s1 : ByteArray) (n2 : Int) (s3 : ByteArray) (d4 : Int) (m4 : ByteArray) (s5 t5 : ByteArray) (d5 : Int) (m5 : ByteArray) (s6 t6 : ByteArray) (ps : List S34) (bo : Bool) (d6 : Int) (m6 : ByteArray),
  pool_Text.f k l i = some (s1, er kd 1) ∧ pool_Number.f k l i = some (n2, er kd 2) ∧ pool_Class.f k l i = some (s3, er kd 3) ∧ pool_Type.f k l i = some (d4, m4, er kd 4) ∧ pool_Field.f k l i = some (s5, t5, d5, m5, er kd 5) ∧ pool_Method.f k l i = some (s6, t6, ps, bo, d6, m6, er kd 6)
def wellV (a0 : List S50) : Prop := a0.length ≤ 400 → ∃ k r e, pool_Check.f k a0 = some (r, e) ∧ (e = 0 → ∀ i : Nat, i < a0.length → kindsAt a0 (i : Int) (rd_T50 a0 (i : Int)).f0)
open Classical in
noncomputable def keystonelaw3_PoolKinds.f (a0 : List S50) : Option Bool := if wellV a0 then some true else none
theorem set7 {W : World} {g : Nat} {t : TypeId} {a0 a1 a2 a3 a4 a5 a6 : Value} (h : W.heap[g]? = some (.cells #[a0, a1, a2, a3, a4, a5, a6] t (0, 0))) (u0 u1 u2 u3 u4 u5 u6 : Value) : (((((((W.setCell ⟨g, 0, none⟩ u0).setCell ⟨g, 1, none⟩ u1).setCell ⟨g, 2, none⟩ u2).setCell ⟨g, 3, none⟩ u3).setCell ⟨g, 4, none⟩ u4).setCell ⟨g, 5, none⟩ u5).setCell ⟨g, 6, none⟩ u6).heap[g]? = some (.cells #[u0, u1, u2, u3, u4, u5, u6] t (0, 0)) := (blk_put' (blk_put' (blk_put' (blk_put' (blk_put' (blk_put' (blk_put' h (show #[a0, a1, a2, a3, a4, a5, a6].setIfInBounds 0 u0 = #[u0, a1, a2, a3, a4, a5, a6] from rfl)) (show #[u0, a1, a2, a3, a4, a5, a6].setIfInBounds 1 u1 = #[u0, u1, a2, a3, a4, a5, a6] from rfl)) (show #[u0, u1, a2, a3, a4, a5, a6].setIfInBounds 2 u2 = #[u0, u1, u2, a3, a4, a5, a6] from rfl)) (show #[u0, u1, u2, a3, a4, a5, a6].setIfInBounds 3 u3 = #[u0, u1, u2, u3, a4, a5, a6] from rfl)) (show #[u0, u1, u2, u3, a4, a5, a6].setIfInBounds 4 u4 = #[u0, u1, u2, u3, u4, a5, a6] from rfl)) (show #[u0, u1, u2, u3, u4, a5, a6].setIfInBounds 5 u5 = #[u0, u1, u2, u3, u4, u5, a6] from rfl)) (show #[u0, u1, u2, u3, u4, u5, a6].setIfInBounds 6 u6 = #[u0, u1, u2, u3, u4, u5, u6] from rfl))
theorem set7b {w W : World} {g : Nat} (h : Below w.heap.size w W) (hg : w.heap.size ≤ g) (u0 u1 u2 u3 u4 u5 u6 : Value) : Below w.heap.size w (((((((W.setCell ⟨g, 0, none⟩ u0).setCell ⟨g, 1, none⟩ u1).setCell ⟨g, 2, none⟩ u2).setCell ⟨g, 3, none⟩ u3).setCell ⟨g, 4, none⟩ u4).setCell ⟨g, 5, none⟩ u5).setCell ⟨g, 6, none⟩ u6) := (below_set (below_set (below_set (below_set (below_set (below_set (below_set h hg) hg) hg) hg) hg) hg) hg)
set_option maxHeartbeats 8000000 in
set_option maxRecDepth 100000 in
theorem keystonelaw3_PoolKinds.calls (A0 : Option Addr) (c0 : Nat) (l0 : List (S50)) (r : Bool) (w : World) (hr0 : Kd.C k50 w A0 l0.length l0) (hc0 : l0.length ≤ c0) (h : keystonelaw3_PoolKinds.f l0 = some r) :
    Calls Tryd.prog 6 #[.slice A0 l0.length c0] w fun e w' => e = .returned (.bool r) ∧ Below w.heap.size w w' := by
  have hw : wellV l0 ∧ true = r := by
    unfold keystonelaw3_PoolKinds.f at h
    split at h
    · rename_i hw
      exact ⟨hw, Option.some.inj h⟩
    · cases h
  obtain ⟨hw, rfl⟩ := hw
  clear h
  by_cases hbig : 400 < l0.length
  · have b0 : decide ((400 : Int) < (l0.length : Int)) = true := decide_eq_true (by omega)
    have b1 : decide (400 < l0.length) = true := decide_eq_true hbig
    clear hr0 hw
    go_enter Tryd.func6, Tryd.ntmps6
    go_wp2_with (first | ((with_reducible refine gt_ 14 ?_); (try (refine gate_guard (by rfl) ?_; dsimp only)); refine gc_ 24 Tryd.func14 #[] ?_; refine (known.frame _).mono ?_; rintro e1 w1 ⟨rfl, hb⟩; refine ⟨_, rfl, ?_⟩; have HB := Aside0.mk hb; clear hb))
    go_ret
    exact ⟨by first | rfl | simp, HB.out⟩
  have b0 : decide ((400 : Int) < (l0.length : Int)) = false := decide_eq_false (by omega)
  have b1 : decide (400 < l0.length) = false := decide_eq_false hbig
  obtain ⟨k1, r1, e0, hK, hall⟩ := hw (by omega)
  replace hK := Aside0.mk hK
  have HR0 := Aside0.mk hr0
  have HC0 := Aside0.mk hc0
  have h400 : l0.length ≤ 400 := by omega
  clear hr0 hc0 hw hbig
  by_cases he : e0 = 0
  · have hal := Aside0.mk (hall he)
    subst he
    clear hall
    go_enter Tryd.func6, Tryd.ntmps6
    go_wp2_with (first | ((with_reducible refine gt_ 14 ?_); (try (refine gate_guard (by rfl) ?_; dsimp only)); refine gc_ 24 Tryd.func14 #[] ?_; refine (known.frame _).mono ?_; rintro e1 w1 ⟨rfl, hb⟩; refine ⟨_, rfl, ?_⟩; have HB := Aside0.mk hb; clear hb) | ((with_reducible refine gt_ 15 ?_); (try (refine gate_guard (by rfl) ?_; dsimp only)); refine gc_ 31 Tryd.func15 #[.slice A0 l0.length c0] ?_; refine (pool_Check.calls k1 A0 c0 l0 r1 0 _ (Kd.C_below HR0.out HB.out) HC0.out hK.out).mono ?_; rintro e2 w2 ⟨rfl, hb⟩; refine ⟨_, rfl, ?_⟩; have n0_ := Aside0.mk (below_step HB.out hb); clear HB hb; have HB := n0_; clear n0_))
    go_loopg [5] l0.length (fun kq v5 w' => ∃ (i : Nat), v5 = .int .i64 (i : Int) ∧ Aside0 (i + kq = l0.length) ∧ Aside0 (Below w.heap.size w w'))
    case atStart => exact ⟨0, rfl, ⟨by omega⟩, HB⟩
    case round =>
      clear HB
      obtain ⟨i, rfl, hi, HB⟩ := hrel
      by_cases hlt : i < l0.length
      · have d1 : decide ((i : Int) < (l0.length : Int)) = true := decide_eq_true (by omega)
        have d2 : decide (i < l0.length) = true := decide_eq_true hlt
        have e1 : wrap64 ((i : Int) + 1) = ((i + 1 : Nat) : Int) := by unfold wrap64; omega
        replace e1 := Aside0.mk e1
        obtain ⟨kd, hkd⟩ : ∃ kd, kd = (rd_T50 l0 (i : Int)).f0 := ⟨_, rfl⟩
        have hat := hal.out i hlt
        rw [← hkd] at hat
        replace hkd := Aside0.mk hkd
        obtain ⟨k, s1, n2, s3, d4, m4, s5, t5, d5, m5, s6, t6, ps, bo, d6, m6, h1, h2, h3, h4, h5, h6⟩ := hat
        replace h1 := Aside0.mk h1
        replace h2 := Aside0.mk h2
        replace h3 := Aside0.mk h3
        replace h4 := Aside0.mk h4
        replace h5 := Aside0.mk h5
        replace h6 := Aside0.mk h6
        obtain ⟨go_, hgo_⟩ : ∃ z : Nat, z = gk := ⟨gk, rfl⟩
        go_wp2_with (first | ((with_reducible refine gt_ 18 ?_); (try (refine gate_guard (by rfl) ?_; dsimp only)); refine gc_ 45 Tryd.func18 #[.slice A0 l0.length c0, .int .i64 (i : Int)] ?_; refine (pool_Text.calls k _ _ l0 (i : Int) s1 (er kd 1) _ (Kd.C_below HR0.out B_) HC0.out h1.out).mono ?_; rintro e_ w_ ⟨rfl, hb⟩; refine ⟨_, rfl, ?_⟩; have HB := bs_ hb; clear hb) | ((with_reducible refine gt_ 24 ?_); (try (refine gate_guard (by rfl) ?_; dsimp only)); refine gc_ 51 Tryd.func24 #[.slice A0 l0.length c0, .int .i64 (i : Int)] ?_; refine (pool_Number.calls k _ _ l0 (i : Int) n2 (er kd 2) _ (Kd.C_below HR0.out B_) HC0.out h2.out).mono ?_; rintro e_ w_ ⟨rfl, hb⟩; refine ⟨_, rfl, ?_⟩; have HB := bs_ hb; clear hb) | ((with_reducible refine gt_ 19 ?_); (try (refine gate_guard (by rfl) ?_; dsimp only)); refine gc_ 57 Tryd.func19 #[.slice A0 l0.length c0, .int .i64 (i : Int)] ?_; refine (pool_Class.calls k _ _ l0 (i : Int) s3 (er kd 3) _ (Kd.C_below HR0.out B_) HC0.out h3.out).mono ?_; rintro e_ w_ ⟨rfl, hb⟩; refine ⟨_, rfl, ?_⟩; have HB := bs_ hb; clear hb) | ((with_reducible refine gt_ 25 ?_); (try (refine gate_guard (by rfl) ?_; dsimp only)); refine gc_ 63 Tryd.func25 #[.slice A0 l0.length c0, .int .i64 (i : Int)] ?_; refine (pool_Type.calls k _ _ l0 (i : Int) d4 m4 (er kd 4) _ (Kd.C_below HR0.out B_) HC0.out h4.out).mono ?_; rintro e_ w_ ⟨rfl, hb⟩; refine ⟨_, rfl, ?_⟩; have HB := bs_ hb; clear hb) | ((with_reducible refine d_ 12 ?_); refine X_ 12 #[.int .i64 0, .string (⟨#[]⟩ : ByteArray)] 34 ?_; intro g12 hg w_ hbox hb; have GE12 := Aside0.mk (s_ hg); have HB := bs_ hb; obtain ⟨x12_0, x12_1, y12_0, y12_1⟩ := c2_ hbox; clear hb hg) | ((with_reducible refine gt_ 20 ?_); (try (refine gate_guard (by rfl) ?_; dsimp only)); refine gc_ 69 Tryd.func20 #[.slice A0 l0.length c0, .int .i64 (i : Int)] ?_; refine (pool_Field.calls k _ _ l0 (i : Int) s5 t5 d5 m5 (er kd 5) _ (Kd.C_below HR0.out B_) HC0.out h5.out).mono ?_; rintro e_ w_ ⟨rfl, hb⟩; refine ⟨_, rfl, ?_⟩; have HB := bs_ hb; clear hb) | ((with_reducible refine d_ 16 ?_); refine X_ 16 #[.int .i64 0, .string (⟨#[]⟩ : ByteArray)] 34 ?_; intro g16 hg w_ hbox hb; have GE16 := Aside0.mk (s_ hg); have HB := bs_ hb; obtain ⟨x16_0, x16_1, y16_0, y16_1⟩ := c2_ hbox; clear hb hg) | ((with_reducible refine gt_ 21 ?_); (try (refine gate_guard (by rfl) ?_; dsimp only)); refine gc_ 77 Tryd.func21 #[.slice A0 l0.length c0, .int .i64 (i : Int)] ?_; refine (pool_Method.calls k _ _ l0 (i : Int) s6 t6 ps bo d6 m6 (er kd 6) _ (Kd.C_below HR0.out B_) HC0.out h6.out).mono ?_; rintro e_ w_ ⟨v6, rfl, ho6, hb⟩; refine ⟨_, rfl, ?_⟩; have HB := bs_ hb; clear hb; obtain ⟨A6, k6, rfl⟩ := Kd.R_slice ho6; clear ho6) | ((with_reducible refine d_ 20 ?_); refine X_ 20 #[.slice none 0 0, .bool false, .int .i64 0, .string (⟨#[]⟩ : ByteArray)] 39 ?_; intro g20 hg w_ hbox hb; have GE20 := Aside0.mk (s_ hg); have HB := bs_ hb; obtain ⟨x20_0, x20_1, x20_2, x20_3, y20_0, y20_1, y20_2, y20_3⟩ := c4_ hbox; clear hb hg) | ((with_reducible refine d_ 22 ?_); refine X_ 22 #[.int .i64 0, .int .i64 0, .int .i64 0, .int .i64 0, .int .i64 0, .int .i64 0, .int .i64 0] 48 ?_; intro g22 hg w_ hbox hb; have GE22 := Aside0.mk (s_ hg); have HB := bs_ hb; have BX := Aside0.mk hbox; obtain ⟨x22_0, x22_1, x22_2, x22_3, x22_4, x22_5, x22_6, y22_0, y22_1, y22_2, y22_3, y22_4, y22_5, y22_6⟩ := c7_ hbox; clear hb hg hbox))
        have BE := Aside0.mk (set7 BX.out (.int .i64 16) (.int .i64 (er kd 1)) (.int .i64 (er kd 2)) (.int .i64 (er kd 3)) (.int .i64 (er kd 4)) (.int .i64 (er kd 5)) (.int .i64 (er kd 6)))
        have HB := Aside0.mk (set7b HB.out GE22.out (.int .i64 16) (.int .i64 (er kd 1)) (.int .i64 (er kd 2)) (.int .i64 (er kd 3)) (.int .i64 (er kd 4)) (.int .i64 (er kd 5)) (.int .i64 (er kd 6)))
        clear BX x22_0 x22_1 x22_2 x22_3 x22_4 x22_5 x22_6 y22_0 y22_1 y22_2 y22_3 y22_4 y22_5 y22_6 x12_0 x12_1 y12_0 y12_1 x16_0 x16_1 y16_0 y16_1 x20_0 x20_1 x20_2 x20_3 y20_0 y20_1 y20_2 y20_3 h1 h2 h3 h4 h5 h6
        go_loopg [23] 7 (fun kq v23 w' => ∃ (q : Int), v23 = .int .i64 q ∧ Aside0 (q + kq = 8) ∧ Aside0 (1 ≤ q) ∧ Aside0 (w'.heap[g22]? = some (.cells #[.int .i64 16, .int .i64 (er kd 1), .int .i64 (er kd 2), .int .i64 (er kd 3), .int .i64 (er kd 4), .int .i64 (er kd 5), .int .i64 (er kd 6)] 48 (0, 0))) ∧ Aside0 (Below w.heap.size w w'))
        case atStart => exact ⟨1, rfl, ⟨by omega⟩, ⟨by omega⟩, BE, HB⟩
        case round =>
          clear BE HB
          obtain ⟨q, rfl, hqk, hq1, BE, HB⟩ := hrel
          by_cases hq : q ≤ 6
          · have hd : decide (q ≤ 6) = true := decide_eq_true hq
            obtain ⟨ad, eA, hx0, hx1, hx2, hx3, hx4, hx5⟩ := at_T50 (Kd.C_below HR0.out HB.out) (i : Int) (by omega) (by omega)
            subst eA
            rw [← hkd.out, Int.toNat_natCast] at hx0
            clear hx1 hx2 hx3 hx4 hx5
            rcases (show q = 1 ∨ q = 2 ∨ q = 3 ∨ q = 4 ∨ q = 5 ∨ q = 6 by have := hq1.out; omega) with rfl | rfl | rfl | rfl | rfl | rfl
            · obtain ⟨u0_, u1_, u2_, u3_, u4_, u5_, u6_, f0_, f1_, f2_, f3_, f4_, f5_, f6_⟩ := c7_ BE.out
              clear f0_ f1_ f2_ f3_ f4_ f5_ f6_ u0_ u2_ u3_ u4_ u5_ u6_
              by_cases hk : kd = 1
              · have ek : er kd 1 = 0 := if_pos hk
                rw [ek] at u1_
                rw [hk] at hx0
                go_wp2
                go_roundg (gk - 1)
                case measure => have := hqk.out; omega
                case rel => exact ⟨2, by first | rfl | decide | simp [wrap64], ⟨by have := hqk.out; omega⟩, ⟨by omega⟩, BE, HB⟩
              · have ek : er kd 1 = 16 := if_neg hk
                rw [ek] at u1_
                have q1 : ((1 : Int) == kd) = false := beq_eq_false_iff_ne.mpr (fun e => hk e.symm)
                have q2 : ((1 : Int) != kd) = true := bne_iff_ne.mpr (fun e => hk e.symm)
                have q3 : ¬ ((1 : Int) = kd) := fun e => hk e.symm
                go_wp2
                go_roundg (gk - 1)
                case measure => have := hqk.out; omega
                case rel => exact ⟨2, by first | rfl | decide | simp [wrap64], ⟨by have := hqk.out; omega⟩, ⟨by omega⟩, BE, HB⟩
            · obtain ⟨u0_, u1_, u2_, u3_, u4_, u5_, u6_, f0_, f1_, f2_, f3_, f4_, f5_, f6_⟩ := c7_ BE.out
              clear f0_ f1_ f2_ f3_ f4_ f5_ f6_ u0_ u1_ u3_ u4_ u5_ u6_
              by_cases hk : kd = 2
              · have ek : er kd 2 = 0 := if_pos hk
                rw [ek] at u2_
                rw [hk] at hx0
                go_wp2
                go_roundg (gk - 1)
                case measure => have := hqk.out; omega
                case rel => exact ⟨3, by first | rfl | decide | simp [wrap64], ⟨by have := hqk.out; omega⟩, ⟨by omega⟩, BE, HB⟩
              · have ek : er kd 2 = 16 := if_neg hk
                rw [ek] at u2_
                have q1 : ((2 : Int) == kd) = false := beq_eq_false_iff_ne.mpr (fun e => hk e.symm)
                have q2 : ((2 : Int) != kd) = true := bne_iff_ne.mpr (fun e => hk e.symm)
                have q3 : ¬ ((2 : Int) = kd) := fun e => hk e.symm
                go_wp2
                go_roundg (gk - 1)
                case measure => have := hqk.out; omega
                case rel => exact ⟨3, by first | rfl | decide | simp [wrap64], ⟨by have := hqk.out; omega⟩, ⟨by omega⟩, BE, HB⟩
            · obtain ⟨u0_, u1_, u2_, u3_, u4_, u5_, u6_, f0_, f1_, f2_, f3_, f4_, f5_, f6_⟩ := c7_ BE.out
              clear f0_ f1_ f2_ f3_ f4_ f5_ f6_ u0_ u1_ u2_ u4_ u5_ u6_
              by_cases hk : kd = 3
              · have ek : er kd 3 = 0 := if_pos hk
                rw [ek] at u3_
                rw [hk] at hx0
                go_wp2
                go_roundg (gk - 1)
                case measure => have := hqk.out; omega
                case rel => exact ⟨4, by first | rfl | decide | simp [wrap64], ⟨by have := hqk.out; omega⟩, ⟨by omega⟩, BE, HB⟩
              · have ek : er kd 3 = 16 := if_neg hk
                rw [ek] at u3_
                have q1 : ((3 : Int) == kd) = false := beq_eq_false_iff_ne.mpr (fun e => hk e.symm)
                have q2 : ((3 : Int) != kd) = true := bne_iff_ne.mpr (fun e => hk e.symm)
                have q3 : ¬ ((3 : Int) = kd) := fun e => hk e.symm
                go_wp2
                go_roundg (gk - 1)
                case measure => have := hqk.out; omega
                case rel => exact ⟨4, by first | rfl | decide | simp [wrap64], ⟨by have := hqk.out; omega⟩, ⟨by omega⟩, BE, HB⟩
            · obtain ⟨u0_, u1_, u2_, u3_, u4_, u5_, u6_, f0_, f1_, f2_, f3_, f4_, f5_, f6_⟩ := c7_ BE.out
              clear f0_ f1_ f2_ f3_ f4_ f5_ f6_ u0_ u1_ u2_ u3_ u5_ u6_
              by_cases hk : kd = 4
              · have ek : er kd 4 = 0 := if_pos hk
                rw [ek] at u4_
                rw [hk] at hx0
                go_wp2
                go_roundg (gk - 1)
                case measure => have := hqk.out; omega
                case rel => exact ⟨5, by first | rfl | decide | simp [wrap64], ⟨by have := hqk.out; omega⟩, ⟨by omega⟩, BE, HB⟩
              · have ek : er kd 4 = 16 := if_neg hk
                rw [ek] at u4_
                have q1 : ((4 : Int) == kd) = false := beq_eq_false_iff_ne.mpr (fun e => hk e.symm)
                have q2 : ((4 : Int) != kd) = true := bne_iff_ne.mpr (fun e => hk e.symm)
                have q3 : ¬ ((4 : Int) = kd) := fun e => hk e.symm
                go_wp2
                go_roundg (gk - 1)
                case measure => have := hqk.out; omega
                case rel => exact ⟨5, by first | rfl | decide | simp [wrap64], ⟨by have := hqk.out; omega⟩, ⟨by omega⟩, BE, HB⟩
            · obtain ⟨u0_, u1_, u2_, u3_, u4_, u5_, u6_, f0_, f1_, f2_, f3_, f4_, f5_, f6_⟩ := c7_ BE.out
              clear f0_ f1_ f2_ f3_ f4_ f5_ f6_ u0_ u1_ u2_ u3_ u4_ u6_
              by_cases hk : kd = 5
              · have ek : er kd 5 = 0 := if_pos hk
                rw [ek] at u5_
                rw [hk] at hx0
                go_wp2
                go_roundg (gk - 1)
                case measure => have := hqk.out; omega
                case rel => exact ⟨6, by first | rfl | decide | simp [wrap64], ⟨by have := hqk.out; omega⟩, ⟨by omega⟩, BE, HB⟩
              · have ek : er kd 5 = 16 := if_neg hk
                rw [ek] at u5_
                have q1 : ((5 : Int) == kd) = false := beq_eq_false_iff_ne.mpr (fun e => hk e.symm)
                have q2 : ((5 : Int) != kd) = true := bne_iff_ne.mpr (fun e => hk e.symm)
                have q3 : ¬ ((5 : Int) = kd) := fun e => hk e.symm
                go_wp2
                go_roundg (gk - 1)
                case measure => have := hqk.out; omega
                case rel => exact ⟨6, by first | rfl | decide | simp [wrap64], ⟨by have := hqk.out; omega⟩, ⟨by omega⟩, BE, HB⟩
            · obtain ⟨u0_, u1_, u2_, u3_, u4_, u5_, u6_, f0_, f1_, f2_, f3_, f4_, f5_, f6_⟩ := c7_ BE.out
              clear f0_ f1_ f2_ f3_ f4_ f5_ f6_ u0_ u1_ u2_ u3_ u4_ u5_
              by_cases hk : kd = 6
              · have ek : er kd 6 = 0 := if_pos hk
                rw [ek] at u6_
                rw [hk] at hx0
                go_wp2
                go_roundg (gk - 1)
                case measure => have := hqk.out; omega
                case rel => exact ⟨7, by first | rfl | decide | simp [wrap64], ⟨by have := hqk.out; omega⟩, ⟨by omega⟩, BE, HB⟩
              · have ek : er kd 6 = 16 := if_neg hk
                rw [ek] at u6_
                have q1 : ((6 : Int) == kd) = false := beq_eq_false_iff_ne.mpr (fun e => hk e.symm)
                have q2 : ((6 : Int) != kd) = true := bne_iff_ne.mpr (fun e => hk e.symm)
                have q3 : ¬ ((6 : Int) = kd) := fun e => hk e.symm
                go_wp2
                go_roundg (gk - 1)
                case measure => have := hqk.out; omega
                case rel => exact ⟨7, by first | rfl | decide | simp [wrap64], ⟨by have := hqk.out; omega⟩, ⟨by omega⟩, BE, HB⟩
          · have hd : decide (q ≤ 6) = false := decide_eq_false hq
            go_wp2
            go_roundg (go_ - 1)
            case measure => have := hi.out; omega
            case rel => exact ⟨i + 1, by first | rfl | (rw [← e1.out]), ⟨by have := hi.out; omega⟩, HB⟩
      · have d1 : decide ((i : Int) < (l0.length : Int)) = false := decide_eq_false (by omega)
        have d2 : decide (i < l0.length) = false := decide_eq_false hlt
        go_wp2
        go_ret
        exact ⟨by first | rfl | simp, HB.out⟩
  · have q1 : (e0 == 0) = false := beq_eq_false_iff_ne.mpr he
    have q2 : (e0 != 0) = true := bne_iff_ne.mpr he
    clear hall he
    go_enter Tryd.func6, Tryd.ntmps6
    go_wp2_with (first | ((with_reducible refine gt_ 14 ?_); (try (refine gate_guard (by rfl) ?_; dsimp only)); refine gc_ 24 Tryd.func14 #[] ?_; refine (known.frame _).mono ?_; rintro e1 w1 ⟨rfl, hb⟩; refine ⟨_, rfl, ?_⟩; have HB := Aside0.mk hb; clear hb) | ((with_reducible refine gt_ 15 ?_); (try (refine gate_guard (by rfl) ?_; dsimp only)); refine gc_ 31 Tryd.func15 #[.slice A0 l0.length c0] ?_; refine (pool_Check.calls k1 A0 c0 l0 r1 e0 _ (Kd.C_below HR0.out HB.out) HC0.out hK.out).mono ?_; rintro e2 w2 ⟨rfl, hb⟩; refine ⟨_, rfl, ?_⟩; have n0_ := Aside0.mk (below_step HB.out hb); clear HB hb; have HB := n0_; clear n0_))
    go_ret
    exact ⟨by first | rfl | simp, HB.out⟩
end Go.Proofs.YtldejfkplnejjaaDoor.P
