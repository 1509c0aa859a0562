/- PoolFull, walked. -/
import Derived.Test.YtldejfkplnejjaaDoorExtL0
namespace Go.Proofs.YtldejfkplnejjaaDoor.P
open Go.Maps Go.WideMaps Go.MapKept
open Go.RowKit Go.Proofs.YtldejfkplnejjaaDoorW.PrintWords Go.Proofs.YtldejfkplnejjaaDoorW.PrintLast Go.Proofs.YtldejfkplnejjaaDoorW.PrintMore
set_option linter.unusedVariables false
set_option linter.unusedSimpArgs false
def numL (n : Nat) : List S50 := (List.range n).map (fun i : Nat => eN (i : Int))
theorem numL_succ (n : Nat) : numL (n + 1) = numL n ++ [eN (n : Int)] := by simp [numL, List.range_succ]
theorem numL_len (n : Nat) : (numL n).length = n := by simp [numL]
theorem numL_ok (n : Nat) (hn : n ≤ 4096) : ∀ x ∈ numL n, okE x := fun x hx => by
  obtain ⟨i, hi, rfl⟩ := List.mem_map.1 hx
  rw [List.mem_range] at hi
  exact okE_N (WalkArith.wf_i64 (by omega))
def wellF (lf : Int) (x : S57) : Prop := x.f5.f0.length ≤ 100 → ((Lit.int .i64 lf).wf = true) ∧ (∃ k v, CallOk k x v ∧ CallOkR k x v) ∧ (∀ n, n ≤ 4096 → ∃ k r, pool_Check.f k (numL n) = some (r, 0) ∧ keystoneref3_Check.f k (numL n) = some (r, 0)) ∧ ∀ L : List S50, L.length ≤ 4096 → ∃ k, keystonelaw3_Same.f k L L = some true
open Classical in
noncomputable def keystonelaw3_PoolFull.f (lf kd n : Int) (c s : ByteArray) (td : Int) (tn : ByteArray) (ps : List S34) (bo : Bool) (rd : Int) (rn : ByteArray) : Option Bool := if wellF lf ⟨kd, n, c, s, ⟨td, tn⟩, ⟨ps, bo, ⟨rd, rn⟩⟩⟩ then some true else none
set_option maxHeartbeats 8000000 in
set_option maxRecDepth 100000 in
theorem keystonelaw3_PoolFull.calls (lf kd n : Int) (c s : ByteArray) (td : Int) (tn : ByteArray) (A : Option Addr) (ca : Nat) (ps : List (S34)) (bo : Bool) (rd : Int) (rn : ByteArray) (r : Bool) (w : World) (hr0 : Kd.C k34 w A ps.length ps) (hc0 : ps.length ≤ ca) (h : keystonelaw3_PoolFull.f lf kd n c s td tn ps bo rd rn = some r) :
    Calls Tryd.prog 8 #[.int .i64 lf, .agg #[.int .i64 kd, .int .i64 n, .string c, .string s, .int .i64 td, .string tn, .slice A ps.length ca, .bool bo, .int .i64 rd, .string rn]] w fun e w' => e = .returned (.bool r) ∧ Below w.heap.size w w' := by
  have hw : wellF lf ⟨kd, n, c, s, ⟨td, tn⟩, ⟨ps, bo, ⟨rd, rn⟩⟩⟩ ∧ true = r := by
    unfold keystonelaw3_PoolFull.f at h
    split at h
    · rename_i hw
      exact ⟨hw, Option.some.inj h⟩
    · cases h
  obtain ⟨hw, rfl⟩ := hw
  clear h
  by_cases hbig : 100 < ps.length
  · have b0 : decide ((100 : Int) < (ps.length : Int)) = true := decide_eq_true (by omega)
    have b1 : decide (100 < ps.length) = true := decide_eq_true hbig
    clear hr0 hw
    go_enter Tryd.func8, Tryd.ntmps8
    go_wp2_with (first | ((with_reducible refine d_ 3 ?_); refine X_ 3 #[.int .i64 kd, .int .i64 n, .string c, .string s, .int .i64 td, .string tn, .slice A ps.length ca, .bool bo, .int .i64 rd, .string rn] 57 ?_; intro gx hg w1 hbox hb; have BX := Aside0.mk hbox; have HB := Aside0.mk hb; have y6 := (c10_ hbox).2.2.2.2.2.2.1; clear hbox hb hg) | ((with_reducible refine gt_ 14 ?_); (try (refine gate_guard (by rfl) ?_; dsimp only)); refine gc_ 9 Tryd.func14 #[] ?_; refine (known.frame _).mono ?_; rintro e1 w2 ⟨rfl, hb⟩; refine ⟨_, rfl, ?_⟩; have n0_ := Aside0.mk (blk_below BX.out hb); have n1_ := Aside0.mk (below_then HB.out HB.out.size hb); clear BX HB hb y6; have BX := n0_; have HB := n1_; clear n0_ n1_; have y6 := (c10_ BX.out).2.2.2.2.2.2.1))
    go_ret
    exact ⟨by first | rfl | simp, HB.out⟩
  have b0 : decide ((100 : Int) < (ps.length : Int)) = false := decide_eq_false (by omega)
  have b1 : decide (100 < ps.length) = false := decide_eq_false hbig
  obtain ⟨hlf, ⟨k0, v, ok, okr⟩, hchk, hsame⟩ := hw (by show ps.length ≤ 100; omega)
  replace hchk := Aside0.mk hchk
  replace hsame := Aside0.mk hsame
  replace ok := Aside0.mk ok
  replace okr := Aside0.mk okr
  have HR0 := Aside0.mk hr0
  have HC0 := Aside0.mk hc0
  clear hr0 hc0 hw hbig
  have h7 : lf.tmod 7 < 7 := Int.tmod_lt_of_pos lf (by decide)
  have h7' : -7 < lf.tmod 7 := Int.lt_tmod_of_pos lf (by decide)
  go_enter Tryd.func8, Tryd.ntmps8
  go_wp2_with (first | ((with_reducible refine d_ 3 ?_); refine X_ 3 #[.int .i64 kd, .int .i64 n, .string c, .string s, .int .i64 td, .string tn, .slice A ps.length ca, .bool bo, .int .i64 rd, .string rn] 57 ?_; intro gx hg w1 hbox hb; have BX := Aside0.mk hbox; have HB := Aside0.mk hb; have y6 := (c10_ hbox).2.2.2.2.2.2.1; clear hbox hb hg) | ((with_reducible refine gt_ 14 ?_); (try (refine gate_guard (by rfl) ?_; dsimp only)); refine gc_ 9 Tryd.func14 #[] ?_; refine (known.frame _).mono ?_; rintro e1 w2 ⟨rfl, hb⟩; refine ⟨_, rfl, ?_⟩; have n0_ := Aside0.mk (blk_below BX.out hb); have n1_ := Aside0.mk (below_then HB.out HB.out.size hb); clear BX HB hb y6; have BX := n0_; have HB := n1_; clear n0_ n1_; have y6 := (c10_ BX.out).2.2.2.2.2.2.1))
  obtain ⟨q, hq, hq6⟩ : ∃ q : Nat, -lf.tmod 7 = (q : Int) ∧ q ≤ 6 := ⟨(-lf.tmod 7).toNat, by omega, by omega⟩
  rw [hq]
  rotate_left
  obtain ⟨q, hq, hq6⟩ : ∃ q : Nat, lf.tmod 7 = (q : Int) ∧ q ≤ 6 := ⟨(lf.tmod 7).toNat, by omega, by omega⟩
  rw [hq]
  all_goals
    clear y6 hq h7 h7'
    generalize decide (lf.tmod 7 < 0) = bz_
    have e0 : wrap64 (4096 - (q : Int)) = ((4096 - q : Nat) : Int) := by unfold wrap64; omega
    go_loopg [5, 6] (4096 - q) (fun kq v5 v6 w' => ∃ (i : Nat), v6 = .int .i64 (i : Int) ∧ Aside0 (i + kq = 4096 - q) ∧ Aside0 (Kd.R k50 50 w' w.heap.size (fun k_ => k_ ≠ gx) v5 (numL i)) ∧ Aside0 (w'.heap[gx]? = some (.cells #[.int .i64 kd, .int .i64 n, .string c, .string s, .int .i64 td, .string tn, .slice A ps.length ca, .bool bo, .int .i64 rd, .string rn] 57 (0, 0))) ∧ Aside0 (Below w.heap.size w w'))
    case atStart => exact ⟨0, rfl, ⟨by omega⟩, ⟨Kd.R_nil _ _ _ _ _⟩, BX, HB⟩
    case round =>
      clear BX HB
      obtain ⟨i, rfl, hi, HO, BX, HB⟩ := hrel
      by_cases hlt : i < 4096 - q
      · have d1 : decide ((i : Int) < wrap64 (4096 - (q : Int))) = true := decide_eq_true (by rw [e0]; omega)
        have e1 : wrap64 ((i : Int) + 1) = ((i + 1 : Nat) : Int) := by unfold wrap64; omega
        replace e1 := Aside0.mk e1
        clear e0
        go_wp2_with (first | ((with_reducible refine gate_builtin (b := .append) (xs := #[.tmp 28, .tmp 31]) rfl ?_); at_builtin; refine Kd.R_append k50 (w0 := w) w.heap.size rfl (.tmp 28) (.tmp 31) 22 50 (.agg #[(.int .i64 0), (.string ⟨#[]⟩), (.int .i64 0), (.int .i64 0), (.int .i64 0), (.int .i64 0)]) 56 rfl Tryd.underlying22 info50 rfl (by decide) (by omega) u5 (numL i) (eN (i : Int)) [.int .i64 2, .string (⟨#[]⟩ : ByteArray), .int .i64 (i : Int), .int .i64 0, .int .i64 0, .int .i64 0] (fun k_ => k_ ≠ gx) (fun _ => False) rfl (by first | (go_simp; done) | (go_simp; rfl)) ?aP (fun _ hk => hk.elim) ?aF ?aO ?aB ?aS ?aL ?_; (case aP => exact k50_mkM _ _ _ (eN (i : Int))); (case aB => exact HB.out); (case aF => exact (fun k_ hk => by have h1 := blk_lt BX.out; omega)); (case aO => exact HO.out); (case aS => exact HB.out.size); (case aL => rw [numL_len]; omega); intro v9 w9 ho hb hg hat; rw [← numL_succ] at ho; have n0_ := Aside0.mk (blk_grown BX.out hg (fun e => HO.out.1 gx e.symm rfl)); clear HO HB BX; have HO := Aside0.mk ho; have HB := Aside0.mk hb; have BX := n0_; clear n0_ ho hb hg hat))
        go_roundg (gk - 1)
        case measure => have := hi.out; omega
        case rel => exact ⟨i + 1, by first | rfl | (rw [← e1.out]), ⟨by have := hi.out; omega⟩, HO, BX, HB⟩
      · have d1 : decide ((i : Int) < wrap64 (4096 - (q : Int))) = false := decide_eq_false (by rw [e0]; omega)
        obtain rfl : i = 4096 - q := by have := hi.out; omega
        obtain ⟨A5, c5, rfl⟩ := Kd.R_slice HO.out
        obtain ⟨k1, r1, hK, hR⟩ := hchk.out (4096 - q) (by omega)
        have hC5 := (Kd.R_reads' HO.out).2.2
        have hc5 := (Kd.R_reads' HO.out).2.1
        have hnew := Aside0.mk (pool_New.good k1 A5 c5 (numL (4096 - q)) r1 wr (numL_ok _ (by omega)) (by rw [numL_len]; omega) hC5 (by rw [numL_len] at *; exact hc5) hK)
        have hnewr := Aside0.mk (fun (w1 : World) (hk : Kp (fun _ => False) wr w1) => rNew.frame k1 A5 c5 (numL (4096 - q)) r1 0 w1 (Kd.C_below hC5 (hk.below (fun _ h => h.elim) (Nat.le_refl _))) (by rw [numL_len] at *; exact hc5) hR (by rw [numL_len]; omega))
        rw [numL_len] at hnew hnewr
        rw [if_pos rfl] at hnewr
        rw [numL_len]
        have HCx := Aside0.mk (Kd.C_below HR0.out HB.out)
        clear hi HO hC5 hc5 hK hR e0 HR0 hlt
        go_wp2_with (first | ((with_reducible refine gt_ 26 ?_); (try (refine gate_guard (by rfl) ?_; dsimp only)); refine gc_ 34 Tryd.func26 #[.slice A5 (4096 - q) c5] ?_; refine (hnew.out).mono ?_; rintro e2 w4 ⟨g, F, rfl, hp, hs⟩; refine ⟨_, rfl, ?_⟩; replace hp := Aside0.mk hp; replace hs := Aside0.mk hs) | ((with_reducible refine gt_ 27 ?_); (try (refine gate_guard (by rfl) ?_; dsimp only)); refine gc_ 36 Tryd.func27 #[.slice A5 (4096 - q) c5] ?_; refine (hnewr.out _ hs.out.kp).mono ?_; rintro e3 w5 ⟨g', G, A_, c_, rfl, hq_, ht⟩; refine ⟨_, rfl, ?_⟩; have HT := Aside0.mk (show BI wr w5 F g (numL (4096 - q)) G g' A_ c_ from ⟨TW_new hp.out hq_ ht, by rw [numL_len]; omega, un_new hs.out ht, below_trans (hs.out.kp.below (fun _ h => h.elim) (Nat.le_refl _)) (ht.kp.below (fun _ h => h.elim) hs.out.kp.size)⟩); clear hp hs hq_ ht))
        refine start_ (n := 30) (S := fun _ => True) (ds := [21, 25]) (bb 30 0) (by kernel_rfl) rfl (by kernel_rfl) trivial (fun _ => ?_)
        have n0_ := Aside0.mk (BI_below HT.out (below_drew (Below.refl _ _)))
        clear HT 
        have HT := n0_
        clear n0_
        generalize World.drew _ = wd at HT ⊢
        refine u_ 0 37 (bb 30 1) ?_
        refine u_ 1 38 (bb 30 3) ?_
        refine u_ 2 39 (bb 30 7) ?_
        refine u_ 3 40 (bb 30 15) ?_
        refine u_ 4 41 (bb 30 31) ?_
        refine one_ (i := 5) (N := some 42) (bb 30 63) rfl rfl (by kernel_rfl) (by decide) (fun K hK => ?_)
        refine val_ (w1 := wd) (.agg #[.int .i64 kd, .int .i64 n, .string c, .string s, .int .i64 td, .string tn, .slice A ps.length ca, .bool bo, .int .i64 rd, .string rn]) (by rfl) rfl ?_ ?_
        · obtain ⟨z0, z1, z2, z3, z4, z5, z6, z7, z8, z9⟩ := c10_ (blk_below BX.out HT.out.2.2.2)
          first | (go_simp; done) | (go_simp; rfl)
        refine hK.out _ _ trivial (fun _ => ?_)
        clear hK K
        refine one_ (i := 6) (N := some 43) (bb 30 127) rfl rfl (by kernel_rfl) (by decide) (fun K hK => ?_)
        refine callK_ 43 Tryd.func28 #[.pointer (some ⟨g, 0, none⟩), .pointer (some ⟨g', 0, none⟩), .agg #[.int .i64 kd, .int .i64 n, .string c, .string s, .int .i64 td, .string tn, .slice A ps.length ca, .bool bo, .int .i64 rd, .string rn]] ?_
        refine (BI_told (x := ⟨kd, n, c, s, ⟨td, tn⟩, ⟨ps, bo, ⟨rd, rn⟩⟩⟩) ok.out okr.out HC0.out HCx.out HT.out).mono ?_
        rintro e6 w7 ⟨F1, G1, A1_, c1_, rfl, ht⟩
        refine ⟨_, rfl, hK.out _ _ trivial (fun hHeld => ?_)⟩
        clear hK K
        obtain ⟨L, hL⟩ : ∃ L, L = agL ⟨kd, n, c, s, ⟨td, tn⟩, ⟨ps, bo, ⟨rd, rn⟩⟩⟩ v (numL (4096 - q)) := ⟨_, rfl⟩
        rw [← hL] at ht
        clear HT hL
        have HT := Aside0.mk ht
        clear ht
        obtain ⟨k2, hsm⟩ := hsame.out L HT.out.2.1
        replace hsm := Aside0.mk hsm
        refine u_ 7 44 (bb 30 255) ?_
        refine u_ 8 45 (bb 30 511) ?_
        refine weak_ (fun w' => w'.cell? ⟨g', 0, none⟩ = some (.slice A1_ L.length c1_) ∧ True) ?_
        have hHeld := And.intro (BI_cell HT.out) trivial
        refine u_ 9 46 (bb 30 1023) ?_
        refine u_ 11 48 (bb 30 3071) ?_
        refine u_ 12 49 (bb 30 7167) ?_
        refine u_ 13 50 (bb 30 15359) ?_
        refine t_ 14 51 (bb 30 31743) ?_
        refine one_ (i := 10) (N := some 47) (bb 30 32767) rfl rfl (by kernel_rfl) (by decide) (fun K hK => ?_)
        refine callK_ 47 Tryd.func29 #[.pointer (some ⟨g, 0, none⟩)] ?_
        refine (BI_pool HT.out).mono ?_
        rintro e7 w8 ⟨v_, rfl, ho, hb⟩
        refine ⟨_, rfl, hK.out _ _ ⟨(hb.cell (World.block_lt_of_cell? _ _ hHeld.1)).trans hHeld.1, trivial⟩ (fun hHeld => ?_)⟩
        clear hK K
        obtain ⟨Av, cv, rfl⟩ := Kd.R_slice ho
        replace ho := Aside0.mk ho
        have n0_ := Aside0.mk (BI_below HT.out hb)
        clear HT hb
        have HT := n0_
        clear n0_
        refine one_ (i := 15) (N := some 52) (bb 30 65535) rfl rfl (by kernel_rfl) (by decide) (fun K hK => ?_)
        refine callK_ 52 Tryd.func17 #[.slice Av L.length cv, .slice A1_ L.length c1_] ?_
        refine (BI_same HT.out ho.out hsm.out).mono ?_
        rintro e8 w9 ⟨rfl, hb⟩
        refine ⟨_, rfl, hK.out _ _ ⟨(hb.cell (World.block_lt_of_cell? _ _ hHeld.1)).trans hHeld.1, trivial⟩ (fun hHeld => ?_)⟩
        clear hK K ho
        have n0_ := Aside0.mk (BI_below HT.out hb)
        clear HT hb
        have HT := n0_
        clear n0_
        refine u_ 16 53 (bb 30 131071) ?_
        refine u_ 17 54 (bb 30 262143) ?_
        refine u_ 18 55 (bb 30 524287) ?_
        refine u_ 19 56 (bb 30 1048575) ?_
        refine one_ (i := 20) (N := some 57) (bb 30 2097151) rfl rfl (by kernel_rfl) (by decide) (fun K hK => ?_)
        refine val_ (w1 := w9) (.agg #[.int .i64 kd, .int .i64 n, .string c, .string s, .int .i64 td, .string tn, .slice A ps.length ca, .bool bo, .int .i64 rd, .string rn]) (by rfl) rfl ?_ ?_
        · obtain ⟨z0, z1, z2, z3, z4, z5, z6, z7, z8, z9⟩ := c10_ (blk_below BX.out HT.out.2.2.2)
          first | (go_simp; done) | (go_simp; rfl)
        refine hK.out _ _ hHeld (fun _ => ?_)
        clear hK K
        refine last_ (i := 21) (N := some 58) (bb 30 4194303) rfl rfl (by kernel_rfl) (by decide) (fun K hK => ?_)
        refine callK_ 58 Tryd.func28 #[.pointer (some ⟨g, 0, none⟩), .pointer (some ⟨g', 0, none⟩), .agg #[.int .i64 kd, .int .i64 n, .string c, .string s, .int .i64 td, .string tn, .slice A ps.length ca, .bool bo, .int .i64 rd, .string rn]] ?_
        refine (BI_told (x := ⟨kd, n, c, s, ⟨td, tn⟩, ⟨ps, bo, ⟨rd, rn⟩⟩⟩) ok.out okr.out HC0.out HCx.out HT.out).mono ?_
        rintro e6 w7 ⟨F2, G2, A2_, c2_, rfl, ht⟩
        refine ⟨_, rfl, hK _ _ ?_⟩
        clear hK K
        obtain ⟨L2, hL2⟩ : ∃ L2, L2 = agL ⟨kd, n, c, s, ⟨td, tn⟩, ⟨ps, bo, ⟨rd, rn⟩⟩⟩ v L := ⟨_, rfl⟩
        rw [← hL2] at ht
        clear HT hL2 hHeld hsm
        have HT := Aside0.mk ht
        clear ht
        refine u_ 22 59 (bb 30 8388607) ?_
        refine u_ 23 60 (bb 30 16777215) ?_
        refine u_ 24 61 (bb 30 33554431) ?_
        refine last_ (i := 25) (N := some 62) (bb 30 67108863) rfl rfl (by kernel_rfl) (by decide) (fun K hK => ?_)
        refine callK_ 62 Tryd.func29 #[.pointer (some ⟨g, 0, none⟩)] ?_
        refine (BI_pool HT.out).mono ?_
        rintro e7 w8 ⟨v_, rfl, ho, hb⟩
        refine ⟨_, rfl, hK _ _ ?_⟩
        clear hK K
        obtain ⟨Av, cv, rfl⟩ := Kd.R_slice ho
        clear ho
        have n0_ := Aside0.mk (BI_below HT.out hb)
        clear HT hb
        have HT := n0_
        clear n0_
        have hL4 := HT.out.2.1
        have d5 : decide ((L2.length : Int) ≤ 4096) = true := decide_eq_true (by omega)
        have d6 : decide (L2.length ≤ 4096) = true := decide_eq_true hL4
        refine u_ 26 63 (bb 30 134217727) ?_
        refine u_ 27 64 (bb 30 268435455) ?_
        refine u_ 28 65 (bb 30 536870911) ?_
        refine u_ 29 4 (bb 30 1073741823) ?_
        refine done_ (by kernel_rfl) ?_
        try go_wp2
        go_ret
        exact ⟨by first | rfl | simp, below_then HB.out HB.out.size HT.out.2.2.2⟩
end Go.Proofs.YtldejfkplnejjaaDoor.P
