/- PoolBuilds, walked. -/
import Derived.Test.YtldejfkplnejjaaDoorExtL0
namespace Go.Proofs.YtldejfkplnejjaaDoor.P
open Go.Maps Go.WideMaps Go.MapKept
open Go.RowKit Go.Proofs.YtldejfkplnejjaaDoorW.PrintWords Go.Proofs.YtldejfkplnejjaaDoorW.PrintLast Go.Proofs.YtldejfkplnejjaaDoorW.PrintMore
set_option linter.unusedVariables false
set_option linter.unusedSimpArgs false
def wellB (a0 : List S50) (a1 : List S57) : Prop := a0.length ≤ 4200 → (∀ x ∈ a0, okE x) ∧ (∃ k r e, pool_Check.f k a0 = some (r, e) ∧ keystoneref3_Check.f k a0 = some (r, e) ∧ (e = 0 → a0.length ≤ 4096)) ∧ (∀ x ∈ a1, x.f5.f0.length ≤ 100 → ∃ k v, CallOk k x v ∧ CallOkR k x v) ∧ ∀ L : List S50, L.length ≤ 4096 → ∃ k, keystonelaw3_Same.f k L L = some true
open Classical in
noncomputable def keystonelaw3_PoolBuilds.f (a0 : List S50) (a1 : List S57) : Option Bool := if wellB a0 a1 then some true else none
set_option maxHeartbeats 8000000 in
set_option maxRecDepth 100000 in
theorem keystonelaw3_PoolBuilds.calls (A0 : Option Addr) (c0 : Nat) (l0 : List (S50)) (A1 : Option Addr) (c1 : Nat) (l1 : List (S57)) (r : Bool) (w : World) (hr0 : Kd.C k50 w A0 l0.length l0) (hc0 : l0.length ≤ c0) (hr1 : Kd.C k57 w A1 l1.length l1) (hc1 : l1.length ≤ c1) (h : keystonelaw3_PoolBuilds.f l0 l1 = some r) :
    Calls Tryd.prog 7 #[.slice A0 l0.length c0, .slice A1 l1.length c1] w fun e w' => e = .returned (.bool r) ∧ Below w.heap.size w w' := by
  have hw : wellB l0 l1 ∧ true = r := by
    unfold keystonelaw3_PoolBuilds.f at h
    split at h
    · rename_i hw
      exact ⟨hw, Option.some.inj h⟩
    · cases h
  obtain ⟨hw, rfl⟩ := hw
  clear h
  by_cases hbig : 4200 < l0.length
  · have b0 : decide ((4200 : Int) < (l0.length : Int)) = true := decide_eq_true (by omega)
    have b1 : decide (4200 < l0.length) = true := decide_eq_true hbig
    clear hr0 hr1 hw
    go_enter Tryd.func7, Tryd.ntmps7
    go_wp2_with (first | ((with_reducible refine gt_ 14 ?_); (try (refine gate_guard (by rfl) ?_; dsimp only)); refine gc_ 10 Tryd.func14 #[] ?_; refine (known.frame _).mono ?_; rintro e1 w1 ⟨rfl, hb⟩; refine ⟨_, rfl, ?_⟩; have HB := Aside0.mk hb; clear hb))
    go_ret
    exact ⟨by first | rfl | simp, HB.out⟩
  have b0 : decide ((4200 : Int) < (l0.length : Int)) = false := decide_eq_false (by omega)
  have b1 : decide (4200 < l0.length) = false := decide_eq_false hbig
  obtain ⟨hok, ⟨k1, r1, e0, hK, hR, h40⟩, hcalls, hsame⟩ := hw (by omega)
  have hLL : (if e0 = 0 then l0 else []).length ≤ 4096 := by
    split
    · exact h40 (by assumption)
    · simp
  replace hok := Aside0.mk hok
  replace hK := Aside0.mk hK
  replace hR := Aside0.mk hR
  replace h40 := Aside0.mk h40
  replace hcalls := Aside0.mk hcalls
  replace hsame := Aside0.mk hsame
  replace hLL := Aside0.mk hLL
  have HR0 := Aside0.mk hr0
  have HC0 := Aside0.mk hc0
  have HR1 := Aside0.mk hr1
  have HC1 := Aside0.mk hc1
  clear hr0 hc0 hr1 hc1 hw
  go_enter Tryd.func7, Tryd.ntmps7
  go_wp2_with (first | ((with_reducible refine gt_ 14 ?_); (try (refine gate_guard (by rfl) ?_; dsimp only)); refine gc_ 10 Tryd.func14 #[] ?_; refine (known.frame _).mono ?_; rintro e1 w1 ⟨rfl, hb⟩; refine ⟨_, rfl, ?_⟩; have HB := Aside0.mk hb; clear hb) | ((with_reducible refine d_ 15 ?_); refine Kd.R_lit k50 _ 50 ?hg (N := 15) ?hd (xs := ([] : List (S50))) (inner := []) (ok := fun _ => True) (okp := fun _ => True) ?hr ?hp (fun _ hk => hk) trivial (Below.refl _ _) (Nat.le_refl _) (by simp) ?_; (case hd => rfl); (case hg => rfl); (case hr => first | (go_simp; done) | (go_simp; rfl)); (case hp => exact (Reps.none _ _)); intro v15 w2 ho hb hg_ hnew_; clear hg_ hnew_; (try simp only [Int.reduceToNat] at ho); have HO := Aside0.mk (Kd.R_lower ho HB.out.size); have n0_ := Aside0.mk (below_step HB.out hb); clear HB hb ho; have HB := n0_; clear n0_) | ((with_reducible refine gate_builtin (b := .append) (xs := #[.tmp 15, .tmp 16]) rfl ?_); at_builtin; refine Kd.R_append_rows k50 (w0 := w) w.heap.size rfl (.tmp 15) (.tmp 16) 22 50 (.agg #[(.int .i64 0), (.string ⟨#[]⟩), (.int .i64 0), (.int .i64 0), (.int .i64 0), (.int .i64 0)]) 56 rfl Tryd.underlying22 info50 rfl (by decide) (by omega) v15 [] l0 _ _ _ (fun _ => True) (fun _ => False) rfl rfl ?aO ?aR (fun _ _ h => h) (fun _ h => h.elim) ?aF ?aB ?aS ?aL ?_; (case aR => exact Kd.C_below HR0.out HB.out); (case aB => exact HB.out); (case aF => exact (fun _ _ => trivial)); (case aO => exact HO.out); (case aS => exact HB.out.size); (case aL => simp only [List.length_nil]; omega); intro v17 w3 ho hb hg_ hat; rw [List.nil_append] at ho; clear HO; obtain ⟨Am, cm, rfl⟩ := Kd.R_slice ho; clear HB; have HM := Aside0.mk (Kd.R_mono (ok' := fun k => k < w3.heap.size) (Kd.R_bound ho) (fun k hk => hk.2.2.1)); have HB := Aside0.mk hb; clear hg_ hat hb ho) | ((with_reducible refine gt_ 26 ?_); (try (refine gate_guard (by rfl) ?_; dsimp only)); refine gc_ 19 Tryd.func26 #[.slice Am l0.length cm] ?_; refine (pool_New.frame k1 Am cm l0 r1 e0 _ hok.out h40.out (Kd.R_reads' HM.out).2.2 (Kd.R_reads' HM.out).2.1 hK.out).mono ?_; rintro e2 w4 ⟨g, F, rfl, hp, hs⟩; refine ⟨_, rfl, ?_⟩; replace hp := Aside0.mk hp; replace hs := Aside0.mk hs; have HB2 := Aside0.mk (below_trans HB.out (hs.out.kp.below (fun _ h => h.elim) HB.out.size))) | ((with_reducible refine gt_ 27 ?_); (try (refine gate_guard (by rfl) ?_; dsimp only)); refine gc_ 21 Tryd.func27 #[.slice A0 l0.length c0] ?_; refine (rNew.frame k1 A0 c0 l0 r1 e0 _ (Kd.C_below HR0.out HB2.out) HC0.out hR.out (by omega)).mono ?_; rintro e3 w5 ⟨g', G, A_, c_, rfl, hq, ht⟩; refine ⟨_, rfl, ?_⟩; have HT := Aside0.mk (show BI w w5 F g _ G g' A_ c_ from ⟨TW_new hp.out hq ht, hLL.out, fun k hk => Nat.le_trans HB.out.size (un_new hs.out ht k hk), below_trans HB2.out (ht.kp.below (fun _ h => h.elim) HB2.out.size)⟩); have HM2 := Aside0.mk (Kd.R_step HM.out (fun k hk hlt => (ht.kp.block k (Nat.lt_of_lt_of_le hk hs.out.kp.size) (fun h => h)).trans (hs.out.kp.block k hk (fun h => h)))); have HU := Aside0.mk (un_new hs.out ht); clear hp hs hq ht HM HB HB2))
  clear HR0 hok hK hR h40
  generalize (if e0 = 0 then l0 else []) = L at HT hLL
  clear hLL
  obtain ⟨B3, hB3⟩ : ∃ B3, B3 = w3.heap.size := ⟨_, rfl⟩
  rw [← hB3] at HM2 HU
  clear hB3
  go_loopg [8] l0.length (fun kq v8 w' => ∃ (i : Nat) (ys : List S50), v8 = .int .i64 (i : Int) ∧ Aside0 (i + kq = l0.length) ∧ Aside0 (Kd.R k50 50 w' w.heap.size (fun k => k < B3) (.slice Am l0.length cm) ys) ∧ Aside0 (BI w w' F g L G g' A_ c_))
  case atStart => exact ⟨0, _, rfl, ⟨by omega⟩, HM2, HT⟩
  case round =>
    clear HM2 HT
    obtain ⟨i, ys, rfl, hi, HM, HT⟩ := hrel
    by_cases hlt : i < l0.length
    · have d1 : decide ((i : Int) < (l0.length : Int)) = true := decide_eq_true (by omega)
      have d2 : decide (i < l0.length) = true := decide_eq_true hlt
      obtain ⟨gm, eA, hgB, hgw⟩ := own_form HM.out (by omega)
      subst eA
      obtain ⟨y, x0, x1, x2, x3, x4, x5, f0, f1, f2, f3, f4, f5⟩ := own_at HM.out i hlt
      have HP := own_set HM.out i hlt z50
      have HT2 := Aside0.mk (BI_kept HT.out HP.2 (fun hu => Nat.not_lt.2 (HU.out gm hu) hgB) hgw)
      have HM2 := Aside0.mk HP.1
      clear HP HM HT
      have e1 : wrap64 ((i : Int) + 1) = ((i + 1 : Nat) : Int) := by unfold wrap64; omega
      replace e1 := Aside0.mk e1
      go_wp2
      go_roundg (gk - 1)
      case measure => have := hi.out; omega
      case rel => exact ⟨i + 1, _, by first | rfl | (rw [← e1.out]), ⟨by have := hi.out; omega⟩, HM2, HT2⟩
    · have d1 : decide ((i : Int) < (l0.length : Int)) = false := decide_eq_false (by omega)
      have d2 : decide (i < l0.length) = false := decide_eq_false hlt
      clear HM hi
      go_wp2
      clear d1 d2 hlt
      go_loopg [9] l1.length (fun kq v9 w' => ∃ (i : Nat) (F : Nat → Prop) (L : List S50) (G : Nat → Prop) (A_ : Option Addr) (c_ : Nat), v9 = .int .i64 (i : Int) ∧ Aside0 (i + kq = l1.length) ∧ Aside0 (BI w w' F g L G g' A_ c_))
      case atStart => exact ⟨0, F, L, G, A_, c_, rfl, ⟨by omega⟩, HT⟩
      case round =>
        clear HT HU
        obtain ⟨i, F, L, G, A_, c_, rfl, hi, HT⟩ := hrel
        by_cases hlt : i < l1.length
        · have d1 : decide ((i : Int) < (l1.length : Int)) = true := decide_eq_true (by omega)
          have d2 : decide (i < l1.length) = true := decide_eq_true hlt
          by_cases h100 : i < 100
          · have d3 : decide ((i : Int) < 100) = true := decide_eq_true (by omega)
            have d4 : decide (i < 100) = true := decide_eq_true h100
            obtain ⟨ad, Ax, cx, eA, z0, z1, z2, z3, z4, z5, z6, z7, z8, z9, hcx, hCx⟩ := at_T57 HR1.out (i : Int) (by omega) (by omega)
            subst eA
            have hx : rd_T57 l1 (i : Int) ∈ l1 := by
              unfold rd_T57
              rw [Int.toNat_natCast, List.getD_eq_getElem?_getD, List.getElem?_eq_getElem hlt]
              exact List.getElem_mem hlt
            rw [Int.toNat_natCast] at z0 z1 z2 z3 z4 z5 z6 z7 z8 z9
            generalize rd_T57 l1 (i : Int) = x at z0 z1 z2 z3 z4 z5 z6 z7 z8 z9 hcx hCx hx
            have hz := Aside0.mk (And.intro z0 (And.intro z1 (And.intro z2 (And.intro z3 (And.intro z4 (And.intro z5 (And.intro z6 (And.intro z7 (And.intro z8 z9)))))))))
            clear z0 z1 z2 z3 z4 z5 z6 z7 z8 z9
            have y6 := (C57_below HT.out.2.2.2 hz.out).2.2.2.2.2.2.1
            have e1 : wrap64 ((i : Int) + 1) = ((i + 1 : Nat) : Int) := by unfold wrap64; omega
            replace e1 := Aside0.mk e1
            replace hcx := Aside0.mk hcx
            replace hCx := Aside0.mk hCx
            by_cases hps : 100 < x.f5.f0.length
            · have d5 : decide ((100 : Int) < (x.f5.f0.length : Int)) = true := decide_eq_true (by omega)
              have d6 : decide (100 < x.f5.f0.length) = true := decide_eq_true hps
              clear hz hcx hCx hx
              go_wp2
              go_roundg (gk - 1)
              case measure => have := hi.out; omega
              case rel => exact ⟨i + 1, F, L, G, A_, c_, by first | rfl | (rw [← e1.out]), ⟨by have := hi.out; omega⟩, HT⟩
            · have d5 : decide ((100 : Int) < (x.f5.f0.length : Int)) = false := decide_eq_false (by omega)
              have d6 : decide (100 < x.f5.f0.length) = false := decide_eq_false hps
              obtain ⟨k0, v, ok, okr⟩ := hcalls.out x hx (by omega)
              obtain ⟨k2, hsm⟩ := hsame.out (agL x v L) (agL_len x v HT.out.2.1)
              replace ok := Aside0.mk ok
              replace okr := Aside0.mk okr
              replace hsm := Aside0.mk hsm
              clear hx
              go_wp2
              clear y6
              refine start_ (n := 18) (S := fun _ => True) (ds := []) (bb 18 0) (by kernel_rfl) rfl (by kernel_rfl) trivial (fun _ => ?_)
              have n0_ := Aside0.mk (BI_below HT.out (below_drew (Below.refl _ _)))
              clear HT 
              have HT := n0_
              clear n0_
              refine u_ 0 52 (bb 18 1) ?_
              refine u_ 1 53 (bb 18 3) ?_
              refine u_ 2 54 (bb 18 7) ?_
              refine u_ 3 55 (bb 18 15) ?_
              refine u_ 4 56 (bb 18 31) ?_
              refine one_ (i := 5) (N := some 57) (bb 18 63) rfl rfl (by kernel_rfl) (by decide) (fun K hK => ?_)
              refine val_ (w1 := wr.drew) (.agg #[.int .i64 x.f0, .int .i64 x.f1, .string x.f2, .string x.f3, .int .i64 x.f4.f0, .string x.f4.f1, .slice Ax x.f5.f0.length cx, .bool x.f5.f1, .int .i64 x.f5.f2.f0, .string x.f5.f2.f1]) (by rfl) rfl ?_ ?_
              · obtain ⟨z0, z1, z2, z3, z4, z5, z6, z7, z8, z9⟩ := C57_below HT.out.2.2.2 hz.out
                first | (go_simp; done) | (go_simp; rfl)
              refine hK.out _ _ trivial (fun _ => ?_)
              clear hK K
              refine one_ (i := 6) (N := some 58) (bb 18 127) rfl rfl (by kernel_rfl) (by decide) (fun K hK => ?_)
              refine callK_ 58 Tryd.func28 #[.pointer (some ⟨g, 0, none⟩), .pointer (some ⟨g', 0, none⟩), .agg #[.int .i64 x.f0, .int .i64 x.f1, .string x.f2, .string x.f3, .int .i64 x.f4.f0, .string x.f4.f1, .slice Ax x.f5.f0.length cx, .bool x.f5.f1, .int .i64 x.f5.f2.f0, .string x.f5.f2.f1]] ?_
              refine (BI_told ok.out okr.out hcx.out hCx.out HT.out).mono ?_
              rintro e6 w7 ⟨F1, G1, A1_, c1_, rfl, ht⟩
              refine ⟨_, rfl, hK.out _ _ trivial (fun hHeld => ?_)⟩
              clear hK K hHeld HT hz ok okr hcx hCx
              generalize agL x v L = L at ht hsm
              have HT := Aside0.mk ht
              clear ht
              refine u_ 7 59 (bb 18 255) ?_
              refine u_ 8 60 (bb 18 511) ?_
              refine weak_ (fun w' => w'.cell? ⟨g', 0, none⟩ = some (.slice A1_ L.length c1_) ∧ True) ?_
              have hHeld := And.intro (BI_cell HT.out) trivial
              refine u_ 9 61 (bb 18 1023) ?_
              refine u_ 11 63 (bb 18 3071) ?_
              refine u_ 12 64 (bb 18 7167) ?_
              refine u_ 13 65 (bb 18 15359) ?_
              refine t_ 14 66 (bb 18 31743) ?_
              refine one_ (i := 10) (N := some 62) (bb 18 32767) rfl rfl (by kernel_rfl) (by decide) (fun K hK => ?_)
              refine callK_ 62 Tryd.func29 #[.pointer (some ⟨g, 0, none⟩)] ?_
              refine (BI_pool HT.out).mono ?_
              rintro e7 w8 ⟨v_, rfl, ho, hb⟩
              refine ⟨_, rfl, hK.out _ _ ⟨(hb.cell (World.block_lt_of_cell? _ _ hHeld.1)).trans hHeld.1, trivial⟩ (fun hHeld => ?_)⟩
              clear hK K
              obtain ⟨Av, cv, rfl⟩ := Kd.R_slice ho
              replace ho := Aside0.mk ho
              have n0_ := Aside0.mk (BI_below HT.out hb)
              clear HT hb
              have HT := n0_
              clear n0_
              refine one_ (i := 15) (N := some 67) (bb 18 65535) rfl rfl (by kernel_rfl) (by decide) (fun K hK => ?_)
              refine callK_ 67 Tryd.func17 #[.slice Av L.length cv, .slice A1_ L.length c1_] ?_
              refine (BI_same HT.out ho.out hsm.out).mono ?_
              rintro e8 w9 ⟨rfl, hb⟩
              refine ⟨_, rfl, hK.out _ _ ⟨(hb.cell (World.block_lt_of_cell? _ _ hHeld.1)).trans hHeld.1, trivial⟩ (fun hHeld => ?_)⟩
              clear hK K ho
              have n0_ := Aside0.mk (BI_below HT.out hb)
              clear HT hb
              have HT := n0_
              clear n0_
              refine u_ 16 68 (bb 18 131071) ?_
              refine u_ 17 69 (bb 18 262143) ?_
              refine done_ (by kernel_rfl) ?_
              clear hHeld
              go_wp2
              go_roundg (gk - 1)
              case measure => have := hi.out; omega
              case rel => exact ⟨i + 1, F1, L, G1, A1_, c1_, by first | rfl | (rw [← e1.out]), ⟨by have := hi.out; omega⟩, HT⟩
          · have d3 : decide ((i : Int) < 100) = false := decide_eq_false (by omega)
            have d4 : decide (i < 100) = false := decide_eq_false h100
            go_wp2
            obtain ⟨k2, hsm⟩ := hsame.out L HT.out.2.1
            replace hsm := Aside0.mk hsm
            have hHeld := And.intro (BI_cell HT.out) trivial
            refine start_ (n := 8) (S := (fun w' => w'.cell? ⟨g', 0, none⟩ = some (.slice A_ L.length c_) ∧ True)) (ds := []) (bb 8 0) (by kernel_rfl) rfl (by kernel_rfl) hHeld (fun hHeld => ?_)
            have n0_ := Aside0.mk (BI_below HT.out (below_drew (Below.refl _ _)))
            clear HT 
            have HT := n0_
            clear n0_
            refine u_ 0 70 (bb 8 1) ?_
            refine u_ 2 72 (bb 8 5) ?_
            refine u_ 3 73 (bb 8 13) ?_
            refine u_ 4 74 (bb 8 29) ?_
            refine t_ 5 75 (bb 8 61) ?_
            refine one_ (i := 1) (N := some 71) (bb 8 63) rfl rfl (by kernel_rfl) (by decide) (fun K hK => ?_)
            refine callK_ 71 Tryd.func29 #[.pointer (some ⟨g, 0, none⟩)] ?_
            refine (BI_pool HT.out).mono ?_
            rintro e7 w8 ⟨v_, rfl, ho, hb⟩
            refine ⟨_, rfl, hK.out _ _ ⟨(hb.cell (World.block_lt_of_cell? _ _ hHeld.1)).trans hHeld.1, trivial⟩ (fun hHeld => ?_)⟩
            clear hK K
            obtain ⟨Av, cv, rfl⟩ := Kd.R_slice ho
            replace ho := Aside0.mk ho
            have n0_ := Aside0.mk (BI_below HT.out hb)
            clear HT hb
            have HT := n0_
            clear n0_
            refine one_ (i := 6) (N := some 76) (bb 8 127) rfl rfl (by kernel_rfl) (by decide) (fun K hK => ?_)
            refine callK_ 76 Tryd.func17 #[.slice Av L.length cv, .slice A_ L.length c_] ?_
            refine (BI_same HT.out ho.out hsm.out).mono ?_
            rintro e8 w9 ⟨rfl, hb⟩
            refine ⟨_, rfl, hK.out _ _ ⟨(hb.cell (World.block_lt_of_cell? _ _ hHeld.1)).trans hHeld.1, trivial⟩ (fun hHeld => ?_)⟩
            clear hK K ho
            have n0_ := Aside0.mk (BI_below HT.out hb)
            clear HT hb
            have HT := n0_
            clear n0_
            refine u_ 7 4 (bb 8 255) ?_
            refine done_ (by kernel_rfl) ?_
            clear hHeld
            try go_wp2
            go_ret
            exact ⟨by first | rfl | simp, HT.out.2.2.2⟩
        · have d1 : decide ((i : Int) < (l1.length : Int)) = false := decide_eq_false (by omega)
          have d2 : decide (i < l1.length) = false := decide_eq_false hlt
          go_wp2
          obtain ⟨k2, hsm⟩ := hsame.out L HT.out.2.1
          replace hsm := Aside0.mk hsm
          have hHeld := And.intro (BI_cell HT.out) trivial
          refine start_ (n := 8) (S := (fun w' => w'.cell? ⟨g', 0, none⟩ = some (.slice A_ L.length c_) ∧ True)) (ds := []) (bb 8 0) (by kernel_rfl) rfl (by kernel_rfl) hHeld (fun hHeld => ?_)
          have n0_ := Aside0.mk (BI_below HT.out (below_drew (Below.refl _ _)))
          clear HT 
          have HT := n0_
          clear n0_
          refine u_ 0 70 (bb 8 1) ?_
          refine u_ 2 72 (bb 8 5) ?_
          refine u_ 3 73 (bb 8 13) ?_
          refine u_ 4 74 (bb 8 29) ?_
          refine t_ 5 75 (bb 8 61) ?_
          refine one_ (i := 1) (N := some 71) (bb 8 63) rfl rfl (by kernel_rfl) (by decide) (fun K hK => ?_)
          refine callK_ 71 Tryd.func29 #[.pointer (some ⟨g, 0, none⟩)] ?_
          refine (BI_pool HT.out).mono ?_
          rintro e7 w8 ⟨v_, rfl, ho, hb⟩
          refine ⟨_, rfl, hK.out _ _ ⟨(hb.cell (World.block_lt_of_cell? _ _ hHeld.1)).trans hHeld.1, trivial⟩ (fun hHeld => ?_)⟩
          clear hK K
          obtain ⟨Av, cv, rfl⟩ := Kd.R_slice ho
          replace ho := Aside0.mk ho
          have n0_ := Aside0.mk (BI_below HT.out hb)
          clear HT hb
          have HT := n0_
          clear n0_
          refine one_ (i := 6) (N := some 76) (bb 8 127) rfl rfl (by kernel_rfl) (by decide) (fun K hK => ?_)
          refine callK_ 76 Tryd.func17 #[.slice Av L.length cv, .slice A_ L.length c_] ?_
          refine (BI_same HT.out ho.out hsm.out).mono ?_
          rintro e8 w9 ⟨rfl, hb⟩
          refine ⟨_, rfl, hK.out _ _ ⟨(hb.cell (World.block_lt_of_cell? _ _ hHeld.1)).trans hHeld.1, trivial⟩ (fun hHeld => ?_)⟩
          clear hK K ho
          have n0_ := Aside0.mk (BI_below HT.out hb)
          clear HT hb
          have HT := n0_
          clear n0_
          refine u_ 7 4 (bb 8 255) ?_
          refine done_ (by kernel_rfl) ?_
          clear hHeld
          try go_wp2
          go_ret
          exact ⟨by first | rfl | simp, HT.out.2.2.2⟩
end Go.Proofs.YtldejfkplnejjaaDoor.P
