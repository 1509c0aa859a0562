/- Two builders beside one another: one call of one, one call of both. Rows of entries of one's own; two builders in a law's loop. -/
import Derived.Test.YtldejfkplnejjaaDoorExtK
import Derived.Test.YtldejfkplnejjaaDoorExtN
import Derived.Test.YtldejfkplnejjaaDoorExtR7
import Derived.Test.YtldejfkplnejjaaDoorP29
import Derived.Test.YtldejfkplnejjaaDoorP8
namespace Go.Proofs.YtldejfkplnejjaaDoor.P
open Go.Maps Go.WideMaps Go.MapKept
open Go.RowKit Go.Proofs.YtldejfkplnejjaaDoorW.PrintWords Go.Proofs.YtldejfkplnejjaaDoorW.PrintLast Go.Proofs.YtldejfkplnejjaaDoorW.PrintMore
set_option linter.unusedVariables false
set_option linter.unusedSimpArgs false
theorem c10_ {w : World} {g : Nat} {t : TypeId} {a0 a1 a2 a3 a4 a5 a6 a7 a8 a9 : Value} (h : w.heap[g]? = some (.cells #[a0, a1, a2, a3, a4, a5, a6, a7, a8, a9] t (0, 0))) : w.cell? ⟨g, 0, none⟩ = some a0 ∧ w.cell? ⟨g, 1, none⟩ = some a1 ∧ w.cell? ⟨g, 2, none⟩ = some a2 ∧ w.cell? ⟨g, 3, none⟩ = some a3 ∧ w.cell? ⟨g, 4, none⟩ = some a4 ∧ w.cell? ⟨g, 5, none⟩ = some a5 ∧ w.cell? ⟨g, 6, none⟩ = some a6 ∧ w.cell? ⟨g, 7, none⟩ = some a7 ∧ w.cell? ⟨g, 8, none⟩ = some a8 ∧ w.cell? ⟨g, 9, none⟩ = some a9 := ⟨(blk_cell h 0).trans rfl, (blk_cell h 1).trans rfl, (blk_cell h 2).trans rfl, (blk_cell h 3).trans rfl, (blk_cell h 4).trans rfl, (blk_cell h 5).trans rfl, (blk_cell h 6).trans rfl, (blk_cell h 7).trans rfl, (blk_cell h 8).trans rfl, (blk_cell h 9).trans rfl⟩
structure CW where
  bc : Bool
  bs : Bool
  bm : Bool
  st : ByteArray
  et : Int
  sg : ByteArray
  eg : Int
structure CallOk (k : Nat) (x : S57) (v : CW) : Prop where
  n : (Lit.int .i64 x.f1).wf = true
  c : x.f2.size ≤ maxLen
  s : x.f3.size ≤ maxLen
  t : v.st.size ≤ maxLen
  g : v.sg.size ≤ maxLen
  h1 : desc_Name.f k x.f2 = some v.bc
  h2 : desc_Name.f k x.f3 = some v.bs
  h3 : desc_Method.f k x.f3 = some v.bm
  hT : desc_TypeText.f k x.f4.f0 x.f4.f1 = some (v.st, v.et)
  hG : desc_SigText.f k x.f5.f0 x.f5.f1 x.f5.f2.f0 x.f5.f2.f1 = some (v.sg, v.eg)
structure CallOkR (k : Nat) (x : S57) (v : CW) : Prop where
  h1 : keystoneref2_Name.f k x.f2 = some v.bc
  h2 : keystoneref2_Name.f k x.f3 = some v.bs
  h3 : keystoneref2_Method.f k x.f3 = some v.bm
  hT : keystoneref2_TypeText.f k x.f4.f0 x.f4.f1 = some (v.st, v.et)
  hG : keystoneref2_SigText.f k x.f5.f0 x.f5.f1 x.f5.f2.f0 x.f5.f2.f1 = some (v.sg, v.eg)
def agI (x : S57) (v : CW) (L : List S50) : Int := if x.f0 = 1 then txI x.f3 L else if x.f0 = 2 then kpI (putI (eN x.f1) L) (putL (eN x.f1) L) else if x.f0 = 3 then clI v.bc x.f2 L else if x.f0 = 4 then tyI v.st v.et L else if x.f0 = 5 then fdI v.bc v.bs x.f2 x.f3 v.st v.et L else if x.f0 = 6 then mdI v.bc v.bm x.f2 x.f3 v.sg v.eg L else 0
def agE (x : S57) (v : CW) (L : List S50) : Int := if x.f0 = 1 then txE x.f3 L else if x.f0 = 2 then kpE (putL (eN x.f1) L) else if x.f0 = 3 then clE v.bc x.f2 L else if x.f0 = 4 then tyE v.st v.et L else if x.f0 = 5 then fdE v.bc v.bs x.f2 x.f3 v.st v.et L else if x.f0 = 6 then mdE v.bc v.bm x.f2 x.f3 v.sg v.eg L else 3
def agL (x : S57) (v : CW) (L : List S50) : List S50 := if x.f0 = 1 then txL x.f3 L else if x.f0 = 2 then kpL L (putL (eN x.f1) L) else if x.f0 = 3 then clL v.bc x.f2 L else if x.f0 = 4 then tyL v.st v.et L else if x.f0 = 5 then fdL v.bc v.bs x.f2 x.f3 v.st v.et L else if x.f0 = 6 then mdL v.bc v.bm x.f2 x.f3 v.sg v.eg L else L
theorem kpL_len {L0 L1 : List S50} (h : L0.length ≤ 4096) : (kpL L0 L1).length ≤ 4096 := by
  unfold kpL
  split <;> omega
theorem agL_len (x : S57) (v : CW) {L : List S50} (h : L.length ≤ 4096) : (agL x v L).length ≤ 4096 := by
  unfold agL txL clL tyL fdL mdL
  repeat' split
  all_goals first | exact h | exact kpL_len h
theorem Stp.low {F F1 : Nat → Prop} {w w1 : World} {B : Nat} (h : Stp F w F1 w1) (hF : ∀ k, F k → B ≤ k) (hB : B ≤ w.heap.size) : ∀ k, F1 k → B ≤ k := fun k hk => (h.own k hk).elim (hF k) (fun h2 => Nat.le_trans hB h2)
theorem below_low {B : Nat} {w w1 : World} (h : Below w.heap.size w w1) (hb : B ≤ w.heap.size) : Below B w w1 :=
  ⟨h.os, h.tape, h.output, h.size, fun k hk => h.block k (Nat.lt_of_lt_of_le hk hb)⟩
set_option maxHeartbeats 8000000 in
set_option maxRecDepth 100000 in
theorem again.frame (k : Nat) (x : S57) (v : CW) (ok : CallOk k x v) (A : Option Addr) (ca : Nat) (hca : x.f5.f0.length ≤ ca) (L : List S50) (hL : L.length ≤ 4096) (F : Nat → Prop) (g : Nat) (W0 w : World) (hC : Kd.C k34 W0 A x.f5.f0.length x.f5.f0) (hb0 : Below W0.heap.size W0 w) (h : PB w F g L) :
    Calls Tryd.prog 30 #[.pointer (some ⟨g, 0, none⟩), .agg #[.int .i64 x.f0, .int .i64 x.f1, .string x.f2, .string x.f3, .int .i64 x.f4.f0, .string x.f4.f1, .slice A x.f5.f0.length ca, .bool x.f5.f1, .int .i64 x.f5.f2.f0, .string x.f5.f2.f1]] w fun e_ w' => ∃ F', e_ = .returned (.tuple #[.int .i64 (agI x v L), .int .i64 (agE x v L)]) ∧ PB w' F' g (agL x v L) ∧ Stp F w F' w' := by
  have hB0 : W0.heap.size ≤ w.heap.size := hb0.size
  obtain ⟨kd, n, c, s, ⟨td, tn⟩, ⟨ps, bo, ⟨rd, rn⟩⟩⟩ := x
  obtain ⟨bc, bs, bm, st, et, sg, eg⟩ := v
  obtain ⟨on_, oc, os, ot, og, h1, h2, h3, hT, hG⟩ := ok
  dsimp only at on_ oc os ot og h1 h2 h3 hT hG hC hca ⊢
  by_cases k1 : kd = 1
  · subst k1
    have e1 : agI ⟨1, n, c, s, ⟨td, tn⟩, ⟨ps, bo, ⟨rd, rn⟩⟩⟩ ⟨bc, bs, bm, st, et, sg, eg⟩ L = txI s L := rfl
    have e2 : agE ⟨1, n, c, s, ⟨td, tn⟩, ⟨ps, bo, ⟨rd, rn⟩⟩⟩ ⟨bc, bs, bm, st, et, sg, eg⟩ L = txE s L := rfl
    have e3 : agL ⟨1, n, c, s, ⟨td, tn⟩, ⟨ps, bo, ⟨rd, rn⟩⟩⟩ ⟨bc, bs, bm, st, et, sg, eg⟩ L = txL s L := rfl
    rw [e1, e2, e3]
    have c1 := Aside0.mk (fun (w1 : World) (h : PB w1 F g L) (hb : Below w.heap.size w w1) => builder_Text.frame s os L hL F g w1 h)
    generalize txI s L = i at c1 ⊢
    generalize txE s L = j at c1 ⊢
    generalize txL s L = L1 at c1 ⊢
    replace h := Aside0.mk h
    clear e1 e2 e3 on_ oc os ot og h1 h2 h3 hT hG hC
    go_enter Tryd.func30, Tryd.ntmps30
    go_wp2_with (first | ((with_reducible refine d_ 3 ?_); refine X_ 3 #[.int .i64 1, .int .i64 n, .string c, .string s, .int .i64 td, .string tn, .slice A ps.length ca, .bool bo, .int .i64 rd, .string rn] 57 ?_; intro gx hg w2 hbox hB2; have hp := Aside0.mk (PB_below h.out hB2); have hS := Aside0.mk ((Stp.refl F w).step hB2); have hb := Aside0.mk hB2; obtain ⟨z0, z1, z2, z3, z4, z5, z6, z7, z8, z9⟩ := c10_ hbox; clear hbox hB2 hg) | ((with_reducible refine gt_ 50 ?_); (try (refine gate_guard (by rfl) ?_; dsimp only)); refine gc_ 13 Tryd.func50 #[.pointer (some ⟨g, 0, none⟩), .string s] ?_; refine (c1.out _ hp.out hb.out).mono ?_; rintro e1 w1 ⟨F1, rfl, hp2, hs2⟩; refine ⟨_, rfl, ?_⟩; clear z0 z1 z2 z3 z4 z5 z6 z7 z8 z9; have n0_ := Aside0.mk hp2; have n1_ := Aside0.mk (hS.out.trans hs2); clear hp hS hp2 hs2 hb; have hp := n0_; have hS := n1_; clear n0_ n1_))
    go_ret2
    exact ⟨_, by first | rfl | simp, hp.out, hS.out⟩
  by_cases k2 : kd = 2
  · subst k2
    have e1 : agI ⟨2, n, c, s, ⟨td, tn⟩, ⟨ps, bo, ⟨rd, rn⟩⟩⟩ ⟨bc, bs, bm, st, et, sg, eg⟩ L = kpI (putI (eN n) L) (putL (eN n) L) := rfl
    have e2 : agE ⟨2, n, c, s, ⟨td, tn⟩, ⟨ps, bo, ⟨rd, rn⟩⟩⟩ ⟨bc, bs, bm, st, et, sg, eg⟩ L = kpE (putL (eN n) L) := rfl
    have e3 : agL ⟨2, n, c, s, ⟨td, tn⟩, ⟨ps, bo, ⟨rd, rn⟩⟩⟩ ⟨bc, bs, bm, st, et, sg, eg⟩ L = kpL L (putL (eN n) L) := rfl
    rw [e1, e2, e3]
    have c1 := Aside0.mk (fun (w1 : World) (h : PB w1 F g L) (hb : Below w.heap.size w w1) => builder_Number.frame n on_ L hL F g w1 h)
    generalize kpI (putI (eN n) L) (putL (eN n) L) = i at c1 ⊢
    generalize kpE (putL (eN n) L) = j at c1 ⊢
    generalize kpL L (putL (eN n) L) = L1 at c1 ⊢
    replace h := Aside0.mk h
    clear e1 e2 e3 on_ oc os ot og h1 h2 h3 hT hG hC
    go_enter Tryd.func30, Tryd.ntmps30
    go_wp2_with (first | ((with_reducible refine d_ 3 ?_); refine X_ 3 #[.int .i64 2, .int .i64 n, .string c, .string s, .int .i64 td, .string tn, .slice A ps.length ca, .bool bo, .int .i64 rd, .string rn] 57 ?_; intro gx hg w2 hbox hB2; have hp := Aside0.mk (PB_below h.out hB2); have hS := Aside0.mk ((Stp.refl F w).step hB2); have hb := Aside0.mk hB2; obtain ⟨z0, z1, z2, z3, z4, z5, z6, z7, z8, z9⟩ := c10_ hbox; clear hbox hB2 hg) | ((with_reducible refine gt_ 52 ?_); (try (refine gate_guard (by rfl) ?_; dsimp only)); refine gc_ 21 Tryd.func52 #[.pointer (some ⟨g, 0, none⟩), .int .i64 n] ?_; refine (c1.out _ hp.out hb.out).mono ?_; rintro e1 w1 ⟨F1, rfl, hp2, hs2⟩; refine ⟨_, rfl, ?_⟩; clear z0 z1 z2 z3 z4 z5 z6 z7 z8 z9; have n0_ := Aside0.mk hp2; have n1_ := Aside0.mk (hS.out.trans hs2); clear hp hS hp2 hs2 hb; have hp := n0_; have hS := n1_; clear n0_ n1_))
    go_ret2
    exact ⟨_, by first | rfl | simp, hp.out, hS.out⟩
  by_cases k3 : kd = 3
  · subst k3
    have e1 : agI ⟨3, n, c, s, ⟨td, tn⟩, ⟨ps, bo, ⟨rd, rn⟩⟩⟩ ⟨bc, bs, bm, st, et, sg, eg⟩ L = clI bc c L := rfl
    have e2 : agE ⟨3, n, c, s, ⟨td, tn⟩, ⟨ps, bo, ⟨rd, rn⟩⟩⟩ ⟨bc, bs, bm, st, et, sg, eg⟩ L = clE bc c L := rfl
    have e3 : agL ⟨3, n, c, s, ⟨td, tn⟩, ⟨ps, bo, ⟨rd, rn⟩⟩⟩ ⟨bc, bs, bm, st, et, sg, eg⟩ L = clL bc c L := rfl
    rw [e1, e2, e3]
    have c1 := Aside0.mk (fun (w1 : World) (h : PB w1 F g L) (hb : Below w.heap.size w w1) => builder_Class.frame k c oc bc h1 L hL F g w1 h)
    generalize clI bc c L = i at c1 ⊢
    generalize clE bc c L = j at c1 ⊢
    generalize clL bc c L = L1 at c1 ⊢
    replace h := Aside0.mk h
    clear e1 e2 e3 on_ oc os ot og h1 h2 h3 hT hG hC
    go_enter Tryd.func30, Tryd.ntmps30
    go_wp2_with (first | ((with_reducible refine d_ 3 ?_); refine X_ 3 #[.int .i64 3, .int .i64 n, .string c, .string s, .int .i64 td, .string tn, .slice A ps.length ca, .bool bo, .int .i64 rd, .string rn] 57 ?_; intro gx hg w2 hbox hB2; have hp := Aside0.mk (PB_below h.out hB2); have hS := Aside0.mk ((Stp.refl F w).step hB2); have hb := Aside0.mk hB2; obtain ⟨z0, z1, z2, z3, z4, z5, z6, z7, z8, z9⟩ := c10_ hbox; clear hbox hB2 hg) | ((with_reducible refine gt_ 37 ?_); (try (refine gate_guard (by rfl) ?_; dsimp only)); refine gc_ 29 Tryd.func37 #[.pointer (some ⟨g, 0, none⟩), .string c] ?_; refine (c1.out _ hp.out hb.out).mono ?_; rintro e1 w1 ⟨F1, rfl, hp2, hs2⟩; refine ⟨_, rfl, ?_⟩; clear z0 z1 z2 z3 z4 z5 z6 z7 z8 z9; have n0_ := Aside0.mk hp2; have n1_ := Aside0.mk (hS.out.trans hs2); clear hp hS hp2 hs2 hb; have hp := n0_; have hS := n1_; clear n0_ n1_))
    go_ret2
    exact ⟨_, by first | rfl | simp, hp.out, hS.out⟩
  by_cases k4 : kd = 4
  · subst k4
    have e1 : agI ⟨4, n, c, s, ⟨td, tn⟩, ⟨ps, bo, ⟨rd, rn⟩⟩⟩ ⟨bc, bs, bm, st, et, sg, eg⟩ L = tyI st et L := rfl
    have e2 : agE ⟨4, n, c, s, ⟨td, tn⟩, ⟨ps, bo, ⟨rd, rn⟩⟩⟩ ⟨bc, bs, bm, st, et, sg, eg⟩ L = tyE st et L := rfl
    have e3 : agL ⟨4, n, c, s, ⟨td, tn⟩, ⟨ps, bo, ⟨rd, rn⟩⟩⟩ ⟨bc, bs, bm, st, et, sg, eg⟩ L = tyL st et L := rfl
    rw [e1, e2, e3]
    have c1 := Aside0.mk (fun (w1 : World) (h : PB w1 F g L) (hb : Below w.heap.size w w1) => builder_Type.frame k td tn st et ot hT L hL F g w1 h)
    generalize tyI st et L = i at c1 ⊢
    generalize tyE st et L = j at c1 ⊢
    generalize tyL st et L = L1 at c1 ⊢
    replace h := Aside0.mk h
    clear e1 e2 e3 on_ oc os ot og h1 h2 h3 hT hG hC
    go_enter Tryd.func30, Tryd.ntmps30
    go_wp2_with (first | ((with_reducible refine d_ 3 ?_); refine X_ 3 #[.int .i64 4, .int .i64 n, .string c, .string s, .int .i64 td, .string tn, .slice A ps.length ca, .bool bo, .int .i64 rd, .string rn] 57 ?_; intro gx hg w2 hbox hB2; have hp := Aside0.mk (PB_below h.out hB2); have hS := Aside0.mk ((Stp.refl F w).step hB2); have hb := Aside0.mk hB2; obtain ⟨z0, z1, z2, z3, z4, z5, z6, z7, z8, z9⟩ := c10_ hbox; clear hbox hB2 hg) | ((with_reducible refine gt_ 55 ?_); (try (refine gate_guard (by rfl) ?_; dsimp only)); refine gc_ 37 Tryd.func55 #[.pointer (some ⟨g, 0, none⟩), .agg #[.int .i64 td, .string tn]] ?_; refine (c1.out _ hp.out hb.out).mono ?_; rintro e1 w1 ⟨F1, rfl, hp2, hs2⟩; refine ⟨_, rfl, ?_⟩; clear z0 z1 z2 z3 z4 z5 z6 z7 z8 z9; have n0_ := Aside0.mk hp2; have n1_ := Aside0.mk (hS.out.trans hs2); clear hp hS hp2 hs2 hb; have hp := n0_; have hS := n1_; clear n0_ n1_))
    go_ret2
    exact ⟨_, by first | rfl | simp, hp.out, hS.out⟩
  by_cases k5 : kd = 5
  · subst k5
    have e1 : agI ⟨5, n, c, s, ⟨td, tn⟩, ⟨ps, bo, ⟨rd, rn⟩⟩⟩ ⟨bc, bs, bm, st, et, sg, eg⟩ L = fdI bc bs c s st et L := rfl
    have e2 : agE ⟨5, n, c, s, ⟨td, tn⟩, ⟨ps, bo, ⟨rd, rn⟩⟩⟩ ⟨bc, bs, bm, st, et, sg, eg⟩ L = fdE bc bs c s st et L := rfl
    have e3 : agL ⟨5, n, c, s, ⟨td, tn⟩, ⟨ps, bo, ⟨rd, rn⟩⟩⟩ ⟨bc, bs, bm, st, et, sg, eg⟩ L = fdL bc bs c s st et L := rfl
    rw [e1, e2, e3]
    have c1 := Aside0.mk (fun (w1 : World) (h : PB w1 F g L) (hb : Below w.heap.size w w1) => builder_Field.frame k c s td tn st et bc bs oc os ot h1 h2 hT L hL F g w1 h)
    generalize fdI bc bs c s st et L = i at c1 ⊢
    generalize fdE bc bs c s st et L = j at c1 ⊢
    generalize fdL bc bs c s st et L = L1 at c1 ⊢
    replace h := Aside0.mk h
    clear e1 e2 e3 on_ oc os ot og h1 h2 h3 hT hG hC
    go_enter Tryd.func30, Tryd.ntmps30
    go_wp2_with (first | ((with_reducible refine d_ 3 ?_); refine X_ 3 #[.int .i64 5, .int .i64 n, .string c, .string s, .int .i64 td, .string tn, .slice A ps.length ca, .bool bo, .int .i64 rd, .string rn] 57 ?_; intro gx hg w2 hbox hB2; have hp := Aside0.mk (PB_below h.out hB2); have hS := Aside0.mk ((Stp.refl F w).step hB2); have hb := Aside0.mk hB2; obtain ⟨z0, z1, z2, z3, z4, z5, z6, z7, z8, z9⟩ := c10_ hbox; clear hbox hB2 hg) | ((with_reducible refine gt_ 38 ?_); (try (refine gate_guard (by rfl) ?_; dsimp only)); refine gc_ 49 Tryd.func38 #[.pointer (some ⟨g, 0, none⟩), .string c, .string s, .agg #[.int .i64 td, .string tn]] ?_; refine (c1.out _ hp.out hb.out).mono ?_; rintro e1 w1 ⟨F1, rfl, hp2, hs2⟩; refine ⟨_, rfl, ?_⟩; clear z0 z1 z2 z3 z4 z5 z6 z7 z8 z9; have n0_ := Aside0.mk hp2; have n1_ := Aside0.mk (hS.out.trans hs2); clear hp hS hp2 hs2 hb; have hp := n0_; have hS := n1_; clear n0_ n1_))
    go_ret2
    exact ⟨_, by first | rfl | simp, hp.out, hS.out⟩
  by_cases k6 : kd = 6
  · subst k6
    have e1 : agI ⟨6, n, c, s, ⟨td, tn⟩, ⟨ps, bo, ⟨rd, rn⟩⟩⟩ ⟨bc, bs, bm, st, et, sg, eg⟩ L = mdI bc bm c s sg eg L := rfl
    have e2 : agE ⟨6, n, c, s, ⟨td, tn⟩, ⟨ps, bo, ⟨rd, rn⟩⟩⟩ ⟨bc, bs, bm, st, et, sg, eg⟩ L = mdE bc bm c s sg eg L := rfl
    have e3 : agL ⟨6, n, c, s, ⟨td, tn⟩, ⟨ps, bo, ⟨rd, rn⟩⟩⟩ ⟨bc, bs, bm, st, et, sg, eg⟩ L = mdL bc bm c s sg eg L := rfl
    rw [e1, e2, e3]
    have c1 := Aside0.mk (fun (w1 : World) (h : PB w1 F g L) (hb : Below w.heap.size w w1) => builder_Method.frame k c s A ps.length ca bo rd rn sg eg bc bm oc os og h1 h3 L hL F g w1 h (fun w2 hb2 => desc_SigText.calls k A ca ps bo rd rn sg eg w2 (Kd.C_below hC (below_trans hb0 (below_trans (below_low hb hB0) (below_low hb2 (Nat.le_trans hB0 hb.size))))) hca hG))
    generalize mdI bc bm c s sg eg L = i at c1 ⊢
    generalize mdE bc bm c s sg eg L = j at c1 ⊢
    generalize mdL bc bm c s sg eg L = L1 at c1 ⊢
    replace h := Aside0.mk h
    clear e1 e2 e3 on_ oc os ot og h1 h2 h3 hT hG hC
    go_enter Tryd.func30, Tryd.ntmps30
    go_wp2_with (first | ((with_reducible refine d_ 3 ?_); refine X_ 3 #[.int .i64 6, .int .i64 n, .string c, .string s, .int .i64 td, .string tn, .slice A ps.length ca, .bool bo, .int .i64 rd, .string rn] 57 ?_; intro gx hg w2 hbox hB2; have hp := Aside0.mk (PB_below h.out hB2); have hS := Aside0.mk ((Stp.refl F w).step hB2); have hb := Aside0.mk hB2; obtain ⟨z0, z1, z2, z3, z4, z5, z6, z7, z8, z9⟩ := c10_ hbox; clear hbox hB2 hg) | ((with_reducible refine gt_ 58 ?_); (try (refine gate_guard (by rfl) ?_; dsimp only)); refine gc_ 61 Tryd.func58 #[.pointer (some ⟨g, 0, none⟩), .string c, .string s, .agg #[.slice A ps.length ca, .bool bo, .int .i64 rd, .string rn]] ?_; refine (c1.out _ hp.out hb.out).mono ?_; rintro e1 w1 ⟨F1, rfl, hp2, hs2⟩; refine ⟨_, rfl, ?_⟩; clear z0 z1 z2 z3 z4 z5 z6 z7 z8 z9; have n0_ := Aside0.mk hp2; have n1_ := Aside0.mk (hS.out.trans hs2); clear hp hS hp2 hs2 hb; have hp := n0_; have hS := n1_; clear n0_ n1_))
    go_ret2
    exact ⟨_, by first | rfl | simp, hp.out, hS.out⟩
  have e1 : agI ⟨kd, n, c, s, ⟨td, tn⟩, ⟨ps, bo, ⟨rd, rn⟩⟩⟩ ⟨bc, bs, bm, st, et, sg, eg⟩ L = 0 := by simp [agI, k1, k2, k3, k4, k5, k6]
  have e2 : agE ⟨kd, n, c, s, ⟨td, tn⟩, ⟨ps, bo, ⟨rd, rn⟩⟩⟩ ⟨bc, bs, bm, st, et, sg, eg⟩ L = 3 := by simp [agE, k1, k2, k3, k4, k5, k6]
  have e3 : agL ⟨kd, n, c, s, ⟨td, tn⟩, ⟨ps, bo, ⟨rd, rn⟩⟩⟩ ⟨bc, bs, bm, st, et, sg, eg⟩ L = L := by simp [agL, k1, k2, k3, k4, k5, k6]
  rw [e1, e2, e3]
  have q1 : (kd == 1) = false := beq_eq_false_iff_ne.mpr k1
  have q2 : (kd == 2) = false := beq_eq_false_iff_ne.mpr k2
  have q3 : (kd == 3) = false := beq_eq_false_iff_ne.mpr k3
  have q4 : (kd == 4) = false := beq_eq_false_iff_ne.mpr k4
  have q5 : (kd == 5) = false := beq_eq_false_iff_ne.mpr k5
  have q6 : (kd == 6) = false := beq_eq_false_iff_ne.mpr k6
  replace h := Aside0.mk h
  clear e1 e2 e3 on_ oc os ot og h1 h2 h3 hT hG hC k1 k2 k3 k4 k5 k6
  go_enter Tryd.func30, Tryd.ntmps30
  go_wp2_with (first | ((with_reducible refine d_ 3 ?_); refine X_ 3 #[.int .i64 kd, .int .i64 n, .string c, .string s, .int .i64 td, .string tn, .slice A ps.length ca, .bool bo, .int .i64 rd, .string rn] 57 ?_; intro gx hg w2 hbox hB2; have hp := Aside0.mk (PB_below h.out hB2); have hS := Aside0.mk ((Stp.refl F w).step hB2); have hb := Aside0.mk hB2; obtain ⟨z0, z1, z2, z3, z4, z5, z6, z7, z8, z9⟩ := c10_ hbox; clear hbox hB2 hg))
  go_ret2
  exact ⟨_, by first | rfl | simp, hp.out, hS.out⟩
theorem keystoneref2_Method.below (k : Nat) (a0 : ByteArray) (r : Bool) (w : World) (h : keystoneref2_Method.f k a0 = some r) : Calls Tryd.prog 96 #[.string a0] w fun e w' => e = .returned (.bool r) ∧ Below w.heap.size w w' := by
  refine (keystoneref2_Method.calls k a0 r w h).mono ?_
  rintro e w' ⟨he, hd⟩
  exact ⟨he, hd.below⟩
end Go.Proofs.YtldejfkplnejjaaDoor.P
namespace Go.Proofs.YtldejfkplnejjaaDoor.P
open Go.Maps Go.WideMaps Go.MapKept
open Go.RowKit Go.Proofs.YtldejfkplnejjaaDoorW.PrintWords Go.Proofs.YtldejfkplnejjaaDoorW.PrintLast Go.Proofs.YtldejfkplnejjaaDoorW.PrintMore
set_option linter.unusedVariables false
set_option linter.unusedSimpArgs false
theorem own_form {W : World} {base n cm : Nat} {ok : Nat → Prop} {A : Option Addr} {ys : List S50} (h : Kd.R k50 50 W base ok (.slice A n cm) ys) (hn : 0 < n) : ∃ gm, A = some ⟨gm, 0, none⟩ ∧ ok gm ∧ base ≤ gm := by
  have e := (Kd.R_reads' h).1
  obtain ⟨gm, cap, hAo, hb, _, _⟩ := Kd.R_form h (by omega)
  obtain ⟨rfl, _, _⟩ : A = some ⟨gm, 0, none⟩ ∧ n = ys.length ∧ cm = cap := by simpa using hAo
  exact ⟨gm, rfl, h.1 gm rfl, hb⟩
theorem C57_below {w w1 : World} {ad : Addr} {i : Nat} {x : S57} {Ax : Option Addr} {cx : Nat} (hb : Below w.heap.size w w1)
    (h : (w.cell? (ad.add (i * 10)) = some (.int .i64 x.f0) ∧ w.cell? ⟨(ad.add (i * 10)).block, (ad.add (i * 10)).off + 1, none⟩ = some (.int .i64 x.f1) ∧ w.cell? ⟨(ad.add (i * 10)).block, (ad.add (i * 10)).off + 2, none⟩ = some (.string x.f2) ∧ w.cell? ⟨(ad.add (i * 10)).block, (ad.add (i * 10)).off + 3, none⟩ = some (.string x.f3) ∧ w.cell? ⟨(ad.add (i * 10)).block, (ad.add (i * 10)).off + 4, none⟩ = some (.int .i64 x.f4.f0) ∧ w.cell? ⟨(ad.add (i * 10)).block, (ad.add (i * 10)).off + 5, none⟩ = some (.string x.f4.f1) ∧ w.cell? ⟨(ad.add (i * 10)).block, (ad.add (i * 10)).off + 6, none⟩ = some (.slice Ax x.f5.f0.length cx) ∧ w.cell? ⟨(ad.add (i * 10)).block, (ad.add (i * 10)).off + 7, none⟩ = some (.bool x.f5.f1) ∧ w.cell? ⟨(ad.add (i * 10)).block, (ad.add (i * 10)).off + 8, none⟩ = some (.int .i64 x.f5.f2.f0) ∧ w.cell? ⟨(ad.add (i * 10)).block, (ad.add (i * 10)).off + 9, none⟩ = some (.string x.f5.f2.f1))) : (w1.cell? (ad.add (i * 10)) = some (.int .i64 x.f0) ∧ w1.cell? ⟨(ad.add (i * 10)).block, (ad.add (i * 10)).off + 1, none⟩ = some (.int .i64 x.f1) ∧ w1.cell? ⟨(ad.add (i * 10)).block, (ad.add (i * 10)).off + 2, none⟩ = some (.string x.f2) ∧ w1.cell? ⟨(ad.add (i * 10)).block, (ad.add (i * 10)).off + 3, none⟩ = some (.string x.f3) ∧ w1.cell? ⟨(ad.add (i * 10)).block, (ad.add (i * 10)).off + 4, none⟩ = some (.int .i64 x.f4.f0) ∧ w1.cell? ⟨(ad.add (i * 10)).block, (ad.add (i * 10)).off + 5, none⟩ = some (.string x.f4.f1) ∧ w1.cell? ⟨(ad.add (i * 10)).block, (ad.add (i * 10)).off + 6, none⟩ = some (.slice Ax x.f5.f0.length cx) ∧ w1.cell? ⟨(ad.add (i * 10)).block, (ad.add (i * 10)).off + 7, none⟩ = some (.bool x.f5.f1) ∧ w1.cell? ⟨(ad.add (i * 10)).block, (ad.add (i * 10)).off + 8, none⟩ = some (.int .i64 x.f5.f2.f0) ∧ w1.cell? ⟨(ad.add (i * 10)).block, (ad.add (i * 10)).off + 9, none⟩ = some (.string x.f5.f2.f1)) := by
  obtain ⟨z0, z1, z2, z3, z4, z5, z6, z7, z8, z9⟩ := h
  have hc : ∀ (p : Addr) (v : Value), w.cell? p = some v → w1.cell? p = some v := fun p v h => (hb.cell (World.block_lt_of_cell? _ _ h)).trans h
  exact ⟨hc _ _ z0, hc _ _ z1, hc _ _ z2, hc _ _ z3, hc _ _ z4, hc _ _ z5, hc _ _ z6, hc _ _ z7, hc _ _ z8, hc _ _ z9⟩
end Go.Proofs.YtldejfkplnejjaaDoor.P
