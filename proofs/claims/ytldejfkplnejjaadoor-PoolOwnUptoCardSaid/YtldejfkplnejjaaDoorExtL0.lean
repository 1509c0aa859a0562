/- Two builders beside one another: one call of one, one call of both. Rows of entries of one's own; two builders in a law's loop. -/
import Derived.Test.YtldejfkplnejjaaDoorExtK
import Derived.Test.YtldejfkplnejjaaDoorExtN
import Derived.Test.YtldejfkplnejjaaDoorExtR7
import Derived.Test.YtldejfkplnejjaaDoorP29
import Derived.Test.YtldejfkplnejjaaDoorP8
namespace Go.Proofs.YtldejfkplnejjaaDoor.P
open Go.Maps Go.WideMaps Go.MapKept
open Go.RowKit Go.Proofs.YtldejfkplnejjaaDoorW.PrintWords Go.Proofs.YtldejfkplnejjaaDoorW.PrintLast Go.Proofs.YtldejfkplnejjaaDoorW.PrintMore
set_option linter.unusedVariables false
set_option linter.unusedSimpArgs false
theorem c10_ {w : World} {g : Nat} {t : TypeId} {a0 a1 a2 a3 a4 a5 a6 a7 a8 a9 : Value} (h : w.heap[g]? = some (.cells #[a0, a1, a2, a3, a4, a5, a6, a7, a8, a9] t (0, 0))) : w.cell? ⟨g, 0, none⟩ = some a0 ∧ w.cell? ⟨g, 1, none⟩ = some a1 ∧ w.cell? ⟨g, 2, none⟩ = some a2 ∧ w.cell? ⟨g, 3, none⟩ = some a3 ∧ w.cell? ⟨g, 4, none⟩ = some a4 ∧ w.cell? ⟨g, 5, none⟩ = some a5 ∧ w.cell? ⟨g, 6, none⟩ = some a6 ∧ w.cell? ⟨g, 7, none⟩ = some a7 ∧ w.cell? ⟨g, 8, none⟩ = some a8 ∧ w.cell? ⟨g, 9, none⟩ = some a9 := ⟨(blk_cell h 0).trans rfl, (blk_cell h 1).trans rfl, (blk_cell h 2).trans rfl, (blk_cell h 3).trans rfl, (blk_cell h 4).trans rfl, (blk_cell h 5).trans rfl, (blk_cell h 6).trans rfl, (blk_cell h 7).trans rfl, (blk_cell h 8).trans rfl, (blk_cell h 9).trans rfl⟩
structure CW where
  bc : Bool
  bs : Bool
  bm : Bool
  st : ByteArray
  et : Int
  sg : ByteArray
  eg : Int
structure CallOk (k : Nat) (x : S57) (v : CW) : Prop where
  n : (Lit.int .i64 x.f1).wf = true
  c : x.f2.size ≤ maxLen
  s : x.f3.size ≤ maxLen
  t : v.st.size ≤ maxLen
  g : v.sg.size ≤ maxLen
  h1 : desc_Name.f k x.f2 = some v.bc
  h2 : desc_Name.f k x.f3 = some v.bs
  h3 : desc_Method.f k x.f3 = some v.bm
  hT : desc_TypeText.f k x.f4.f0 x.f4.f1 = some (v.st, v.et)
  hG : desc_SigText.f k x.f5.f0 x.f5.f1 x.f5.f2.f0 x.f5.f2.f1 = some (v.sg, v.eg)
structure CallOkR (k : Nat) (x : S57) (v : CW) : Prop where
  h1 : keystoneref2_Name.f k x.f2 = some v.bc
  h2 : keystoneref2_Name.f k x.f3 = some v.bs
  h3 : keystoneref2_Method.f k x.f3 = some v.bm
  hT : keystoneref2_TypeText.f k x.f4.f0 x.f4.f1 = some (v.st, v.et)
  hG : keystoneref2_SigText.f k x.f5.f0 x.f5.f1 x.f5.f2.f0 x.f5.f2.f1 = some (v.sg, v.eg)
def agI (x : S57) (v : CW) (L : List S50) : Int := if x.f0 = 1 then txI x.f3 L else if x.f0 = 2 then kpI (putI (eN x.f1) L) (putL (eN x.f1) L) else if x.f0 = 3 then clI v.bc x.f2 L else if x.f0 = 4 then tyI v.st v.et L else if x.f0 = 5 then fdI v.bc v.bs x.f2 x.f3 v.st v.et L else if x.f0 = 6 then mdI v.bc v.bm x.f2 x.f3 v.sg v.eg L else 0
def agE (x : S57) (v : CW) (L : List S50) : Int := if x.f0 = 1 then txE x.f3 L else if x.f0 = 2 then kpE (putL (eN x.f1) L) else if x.f0 = 3 then clE v.bc x.f2 L else if x.f0 = 4 then tyE v.st v.et L else if x.f0 = 5 then fdE v.bc v.bs x.f2 x.f3 v.st v.et L else if x.f0 = 6 then mdE v.bc v.bm x.f2 x.f3 v.sg v.eg L else 3
def agL (x : S57) (v : CW) (L : List S50) : List S50 := if x.f0 = 1 then txL x.f3 L else if x.f0 = 2 then kpL L (putL (eN x.f1) L) else if x.f0 = 3 then clL v.bc x.f2 L else if x.f0 = 4 then tyL v.st v.et L else if x.f0 = 5 then fdL v.bc v.bs x.f2 x.f3 v.st v.et L else if x.f0 = 6 then mdL v.bc v.bm x.f2 x.f3 v.sg v.eg L else L
theorem kpL_len {L0 L1 : List S50} (h : L0.length ≤ 4096) : (kpL L0 L1).length ≤ 4096 := by
  unfold kpL
  split <;> omega
theorem agL_len (x : S57) (v : CW) {L : List S50} (h : L.length ≤ 4096) : (agL x v L).length ≤ 4096 := by
  unfold agL txL clL tyL fdL mdL
  repeat' split
  all_goals first | exact h | exact kpL_len h
theorem Stp.low {F F1 : Nat → Prop} {w w1 : World} {B : Nat} (h : Stp F w F1 w1) (hF : ∀ k, F k → B ≤ k) (hB : B ≤ w.heap.size) : ∀ k, F1 k → B ≤ k := fun k hk => (h.own k hk).elim (hF k) (fun h2 => Nat.le_trans hB h2)
def Un (F G : Nat → Prop) : Nat → Prop := fun k => F k ∨ G k
theorem Stp.left {F F1 : Nat → Prop} {w w1 : World} (h : Stp F w F1 w1) (G : Nat → Prop) : Stp (Un F G) w (Un F1 G) w1 :=
  ⟨fun k hk => hk.elim (fun h1 => (h.own k h1).elim (fun h2 => .inl (.inl h2)) .inr) (fun h2 => .inl (.inr h2)), ⟨h.kp.os, h.kp.tape, h.kp.output, h.kp.size, fun k hk hn => h.kp.block k hk (fun hf => hn (.inl hf))⟩⟩
theorem Stp.right {G G1 : Nat → Prop} {w w1 : World} (h : Stp G w G1 w1) (F : Nat → Prop) : Stp (Un F G) w (Un F G1) w1 :=
  ⟨fun k hk => hk.elim (fun h2 => .inl (.inl h2)) (fun h1 => (h.own k h1).elim (fun h2 => .inl (.inr h2)) .inr), ⟨h.kp.os, h.kp.tape, h.kp.output, h.kp.size, fun k hk hn => h.kp.block k hk (fun hf => hn (.inr hf))⟩⟩
def TW (w : World) (F : Nat → Prop) (g : Nat) (L : List S50) (G : Nat → Prop) (g' : Nat) (M : List S50) (A : Option Addr) (c : Nat) : Prop := PB w F g L ∧ RB w G g' M A c ∧ ∀ k, F k → ¬ G k
theorem TW_below {w w1 : World} {F : Nat → Prop} {g : Nat} {L : List S50} {G : Nat → Prop} {g' : Nat} {M : List S50} {A : Option Addr} {c : Nat} (h : TW w F g L G g' M A c) (hb : Below w.heap.size w w1) : TW w1 F g L G g' M A c := ⟨PB_below h.1 hb, RB_below h.2.1 hb, h.2.2⟩
theorem TW_kept {w w1 : World} {F : Nat → Prop} {g : Nat} {L : List S50} {G : Nat → Prop} {g' : Nat} {M : List S50} {A : Option Addr} {c : Nat} {H : Nat → Prop} (h : TW w F g L G g' M A c) (hk : Kp H w w1) (hd : ∀ k, Un F G k → ¬ H k) : TW w1 F g L G g' M A c := ⟨PB_apart h.1 hk (fun k hf => hd k (.inl hf)), RB_apart h.2.1 hk (fun k hf => hd k (.inr hf)), h.2.2⟩
theorem TW_left {w w1 : World} {F F1 : Nat → Prop} {g : Nat} {L L1 : List S50} {G : Nat → Prop} {g' : Nat} {M : List S50} {A : Option Addr} {c : Nat} (h : TW w F g L G g' M A c) (hp : PB w1 F1 g L1) (hs : Stp F w F1 w1) : TW w1 F1 g L1 G g' M A c :=
  ⟨hp, RB_apart h.2.1 hs.kp (fun k h1 h2 => h.2.2 k h2 h1), fun k h1 h2 => (hs.own k h1).elim (fun h3 => h.2.2 k h3 h2) (fun h3 => absurd (h.2.1.2.2.2 k h2) (Nat.not_lt.2 h3))⟩
theorem TW_right {w w1 : World} {F : Nat → Prop} {g : Nat} {L : List S50} {G G1 : Nat → Prop} {g' : Nat} {M M1 : List S50} {A A1 : Option Addr} {c c1 : Nat} (h : TW w F g L G g' M A c) (hp : RB w1 G1 g' M1 A1 c1) (hs : Stp G w G1 w1) : TW w1 F g L G1 g' M1 A1 c1 :=
  ⟨PB_apart h.1 hs.kp (fun k h1 h2 => h.2.2 k h1 h2), hp, fun k h1 h2 => (hs.own k h2).elim (fun h3 => h.2.2 k h1 h3) (fun h3 => absurd (PB_lt h.1 k h1) (Nat.not_lt.2 h3))⟩
def TQ (w0 : World) (U0 : Nat → Prop) (gx : Nat) (cs : Array Value) (w : World) (F : Nat → Prop) (g : Nat) (L : List S50) (G : Nat → Prop) (g' : Nat) (M : List S50) (A : Option Addr) (c : Nat) : Prop :=
  TW w F g L G g' M A c ∧ Stp U0 w0 (Un F G) w ∧ ¬ Un F G gx ∧ w.heap[gx]? = some (.cells cs 57 (0, 0))
theorem TQ_new {w w1 : World} {F : Nat → Prop} {g : Nat} {L : List S50} {G : Nat → Prop} {g' : Nat} {M : List S50} {A : Option Addr} {c : Nat} {gx : Nat} {cs : Array Value} (h : TW w F g L G g' M A c) (hg : gx = w.heap.size) (hb : w1.heap[gx]? = some (.cells cs 57 (0, 0))) (hB : Below w.heap.size w w1) : TQ w (Un F G) gx cs w1 F g L G g' M A c :=
  ⟨TW_below h hB, (Stp.refl _ _).step hB, fun hu => hu.elim (fun h1 => by have := PB_lt h.1 gx h1; omega) (fun h1 => by have := h.2.1.2.2.2 gx h1; omega), hb⟩
theorem TQ_left {w0 : World} {U0 : Nat → Prop} {gx : Nat} {cs : Array Value} {w w1 : World} {F F1 : Nat → Prop} {g : Nat} {L L1 : List S50} {G : Nat → Prop} {g' : Nat} {M : List S50} {A : Option Addr} {c : Nat} (h : TQ w0 U0 gx cs w F g L G g' M A c) (hp : PB w1 F1 g L1) (hs : Stp F w F1 w1) : TQ w0 U0 gx cs w1 F1 g L1 G g' M A c :=
  have hu := hs.left G
  ⟨TW_left h.1 hp hs, h.2.1.trans hu, fun h1 => (hu.own gx h1).elim h.2.2.1 (fun h2 => absurd (blk_lt h.2.2.2) (Nat.not_lt.2 h2)), (hu.kp.block gx (blk_lt h.2.2.2) h.2.2.1).trans h.2.2.2⟩
theorem TQ_right {w0 : World} {U0 : Nat → Prop} {gx : Nat} {cs : Array Value} {w w1 : World} {F : Nat → Prop} {g : Nat} {L : List S50} {G G1 : Nat → Prop} {g' : Nat} {M M1 : List S50} {A A1 : Option Addr} {c c1 : Nat} (h : TQ w0 U0 gx cs w F g L G g' M A c) (hp : RB w1 G1 g' M1 A1 c1) (hs : Stp G w G1 w1) : TQ w0 U0 gx cs w1 F g L G1 g' M1 A1 c1 :=
  have hu := hs.right F
  ⟨TW_right h.1 hp hs, h.2.1.trans hu, fun h1 => (hu.own gx h1).elim h.2.2.1 (fun h2 => absurd (blk_lt h.2.2.2) (Nat.not_lt.2 h2)), (hu.kp.block gx (blk_lt h.2.2.2) h.2.2.1).trans h.2.2.2⟩
theorem below_low {B : Nat} {w w1 : World} (h : Below w.heap.size w w1) (hb : B ≤ w.heap.size) : Below B w w1 :=
  ⟨h.os, h.tape, h.output, h.size, fun k hk => h.block k (Nat.lt_of_lt_of_le hk hb)⟩
set_option maxHeartbeats 8000000 in
set_option maxRecDepth 100000 in
theorem again.frame (k : Nat) (x : S57) (v : CW) (ok : CallOk k x v) (A : Option Addr) (ca : Nat) (hca : x.f5.f0.length ≤ ca) (L : List S50) (hL : L.length ≤ 4096) (F : Nat → Prop) (g : Nat) (W0 w : World) (hC : Kd.C k34 W0 A x.f5.f0.length x.f5.f0) (hb0 : Below W0.heap.size W0 w) (h : PB w F g L) :
    Calls Tryd.prog 30 #[.pointer (some ⟨g, 0, none⟩), .agg #[.int .i64 x.f0, .int .i64 x.f1, .string x.f2, .string x.f3, .int .i64 x.f4.f0, .string x.f4.f1, .slice A x.f5.f0.length ca, .bool x.f5.f1, .int .i64 x.f5.f2.f0, .string x.f5.f2.f1]] w fun e_ w' => ∃ F', e_ = .returned (.tuple #[.int .i64 (agI x v L), .int .i64 (agE x v L)]) ∧ PB w' F' g (agL x v L) ∧ Stp F w F' w' := by
  have hB0 : W0.heap.size ≤ w.heap.size := hb0.size
  obtain ⟨kd, n, c, s, ⟨td, tn⟩, ⟨ps, bo, ⟨rd, rn⟩⟩⟩ := x
  obtain ⟨bc, bs, bm, st, et, sg, eg⟩ := v
  obtain ⟨on_, oc, os, ot, og, h1, h2, h3, hT, hG⟩ := ok
  dsimp only at on_ oc os ot og h1 h2 h3 hT hG hC hca ⊢
  by_cases k1 : kd = 1
  · subst k1
    have e1 : agI ⟨1, n, c, s, ⟨td, tn⟩, ⟨ps, bo, ⟨rd, rn⟩⟩⟩ ⟨bc, bs, bm, st, et, sg, eg⟩ L = txI s L := rfl
    have e2 : agE ⟨1, n, c, s, ⟨td, tn⟩, ⟨ps, bo, ⟨rd, rn⟩⟩⟩ ⟨bc, bs, bm, st, et, sg, eg⟩ L = txE s L := rfl
    have e3 : agL ⟨1, n, c, s, ⟨td, tn⟩, ⟨ps, bo, ⟨rd, rn⟩⟩⟩ ⟨bc, bs, bm, st, et, sg, eg⟩ L = txL s L := rfl
    rw [e1, e2, e3]
    have c1 := Aside0.mk (fun (w1 : World) (h : PB w1 F g L) (hb : Below w.heap.size w w1) => builder_Text.frame s os L hL F g w1 h)
    generalize txI s L = i at c1 ⊢
    generalize txE s L = j at c1 ⊢
    generalize txL s L = L1 at c1 ⊢
    replace h := Aside0.mk h
    clear e1 e2 e3 on_ oc os ot og h1 h2 h3 hT hG hC
    go_enter Tryd.func30, Tryd.ntmps30
    go_wp2_with (first | ((with_reducible refine d_ 3 ?_); refine X_ 3 #[.int .i64 1, .int .i64 n, .string c, .string s, .int .i64 td, .string tn, .slice A ps.length ca, .bool bo, .int .i64 rd, .string rn] 57 ?_; intro gx hg w2 hbox hB2; have hp := Aside0.mk (PB_below h.out hB2); have hS := Aside0.mk ((Stp.refl F w).step hB2); have hb := Aside0.mk hB2; obtain ⟨z0, z1, z2, z3, z4, z5, z6, z7, z8, z9⟩ := c10_ hbox; clear hbox hB2 hg) | ((with_reducible refine gt_ 50 ?_); (try (refine gate_guard (by rfl) ?_; dsimp only)); refine gc_ 13 Tryd.func50 #[.pointer (some ⟨g, 0, none⟩), .string s] ?_; refine (c1.out _ hp.out hb.out).mono ?_; rintro e1 w1 ⟨F1, rfl, hp2, hs2⟩; refine ⟨_, rfl, ?_⟩; clear z0 z1 z2 z3 z4 z5 z6 z7 z8 z9; have n0_ := Aside0.mk hp2; have n1_ := Aside0.mk (hS.out.trans hs2); clear hp hS hp2 hs2 hb; have hp := n0_; have hS := n1_; clear n0_ n1_))
    go_ret2
    exact ⟨_, by first | rfl | simp, hp.out, hS.out⟩
  by_cases k2 : kd = 2
  · subst k2
    have e1 : agI ⟨2, n, c, s, ⟨td, tn⟩, ⟨ps, bo, ⟨rd, rn⟩⟩⟩ ⟨bc, bs, bm, st, et, sg, eg⟩ L = kpI (putI (eN n) L) (putL (eN n) L) := rfl
    have e2 : agE ⟨2, n, c, s, ⟨td, tn⟩, ⟨ps, bo, ⟨rd, rn⟩⟩⟩ ⟨bc, bs, bm, st, et, sg, eg⟩ L = kpE (putL (eN n) L) := rfl
    have e3 : agL ⟨2, n, c, s, ⟨td, tn⟩, ⟨ps, bo, ⟨rd, rn⟩⟩⟩ ⟨bc, bs, bm, st, et, sg, eg⟩ L = kpL L (putL (eN n) L) := rfl
    rw [e1, e2, e3]
    have c1 := Aside0.mk (fun (w1 : World) (h : PB w1 F g L) (hb : Below w.heap.size w w1) => builder_Number.frame n on_ L hL F g w1 h)
    generalize kpI (putI (eN n) L) (putL (eN n) L) = i at c1 ⊢
    generalize kpE (putL (eN n) L) = j at c1 ⊢
    generalize kpL L (putL (eN n) L) = L1 at c1 ⊢
    replace h := Aside0.mk h
    clear e1 e2 e3 on_ oc os ot og h1 h2 h3 hT hG hC
    go_enter Tryd.func30, Tryd.ntmps30
    go_wp2_with (first | ((with_reducible refine d_ 3 ?_); refine X_ 3 #[.int .i64 2, .int .i64 n, .string c, .string s, .int .i64 td, .string tn, .slice A ps.length ca, .bool bo, .int .i64 rd, .string rn] 57 ?_; intro gx hg w2 hbox hB2; have hp := Aside0.mk (PB_below h.out hB2); have hS := Aside0.mk ((Stp.refl F w).step hB2); have hb := Aside0.mk hB2; obtain ⟨z0, z1, z2, z3, z4, z5, z6, z7, z8, z9⟩ := c10_ hbox; clear hbox hB2 hg) | ((with_reducible refine gt_ 52 ?_); (try (refine gate_guard (by rfl) ?_; dsimp only)); refine gc_ 21 Tryd.func52 #[.pointer (some ⟨g, 0, none⟩), .int .i64 n] ?_; refine (c1.out _ hp.out hb.out).mono ?_; rintro e1 w1 ⟨F1, rfl, hp2, hs2⟩; refine ⟨_, rfl, ?_⟩; clear z0 z1 z2 z3 z4 z5 z6 z7 z8 z9; have n0_ := Aside0.mk hp2; have n1_ := Aside0.mk (hS.out.trans hs2); clear hp hS hp2 hs2 hb; have hp := n0_; have hS := n1_; clear n0_ n1_))
    go_ret2
    exact ⟨_, by first | rfl | simp, hp.out, hS.out⟩
  by_cases k3 : kd = 3
  · subst k3
    have e1 : agI ⟨3, n, c, s, ⟨td, tn⟩, ⟨ps, bo, ⟨rd, rn⟩⟩⟩ ⟨bc, bs, bm, st, et, sg, eg⟩ L = clI bc c L := rfl
    have e2 : agE ⟨3, n, c, s, ⟨td, tn⟩, ⟨ps, bo, ⟨rd, rn⟩⟩⟩ ⟨bc, bs, bm, st, et, sg, eg⟩ L = clE bc c L := rfl
    have e3 : agL ⟨3, n, c, s, ⟨td, tn⟩, ⟨ps, bo, ⟨rd, rn⟩⟩⟩ ⟨bc, bs, bm, st, et, sg, eg⟩ L = clL bc c L := rfl
    rw [e1, e2, e3]
    have c1 := Aside0.mk (fun (w1 : World) (h : PB w1 F g L) (hb : Below w.heap.size w w1) => builder_Class.frame k c oc bc h1 L hL F g w1 h)
    generalize clI bc c L = i at c1 ⊢
    generalize clE bc c L = j at c1 ⊢
    generalize clL bc c L = L1 at c1 ⊢
    replace h := Aside0.mk h
    clear e1 e2 e3 on_ oc os ot og h1 h2 h3 hT hG hC
    go_enter Tryd.func30, Tryd.ntmps30
    go_wp2_with (first | ((with_reducible refine d_ 3 ?_); refine X_ 3 #[.int .i64 3, .int .i64 n, .string c, .string s, .int .i64 td, .string tn, .slice A ps.length ca, .bool bo, .int .i64 rd, .string rn] 57 ?_; intro gx hg w2 hbox hB2; have hp := Aside0.mk (PB_below h.out hB2); have hS := Aside0.mk ((Stp.refl F w).step hB2); have hb := Aside0.mk hB2; obtain ⟨z0, z1, z2, z3, z4, z5, z6, z7, z8, z9⟩ := c10_ hbox; clear hbox hB2 hg) | ((with_reducible refine gt_ 37 ?_); (try (refine gate_guard (by rfl) ?_; dsimp only)); refine gc_ 29 Tryd.func37 #[.pointer (some ⟨g, 0, none⟩), .string c] ?_; refine (c1.out _ hp.out hb.out).mono ?_; rintro e1 w1 ⟨F1, rfl, hp2, hs2⟩; refine ⟨_, rfl, ?_⟩; clear z0 z1 z2 z3 z4 z5 z6 z7 z8 z9; have n0_ := Aside0.mk hp2; have n1_ := Aside0.mk (hS.out.trans hs2); clear hp hS hp2 hs2 hb; have hp := n0_; have hS := n1_; clear n0_ n1_))
    go_ret2
    exact ⟨_, by first | rfl | simp, hp.out, hS.out⟩
  by_cases k4 : kd = 4
  · subst k4
    have e1 : agI ⟨4, n, c, s, ⟨td, tn⟩, ⟨ps, bo, ⟨rd, rn⟩⟩⟩ ⟨bc, bs, bm, st, et, sg, eg⟩ L = tyI st et L := rfl
    have e2 : agE ⟨4, n, c, s, ⟨td, tn⟩, ⟨ps, bo, ⟨rd, rn⟩⟩⟩ ⟨bc, bs, bm, st, et, sg, eg⟩ L = tyE st et L := rfl
    have e3 : agL ⟨4, n, c, s, ⟨td, tn⟩, ⟨ps, bo, ⟨rd, rn⟩⟩⟩ ⟨bc, bs, bm, st, et, sg, eg⟩ L = tyL st et L := rfl
    rw [e1, e2, e3]
    have c1 := Aside0.mk (fun (w1 : World) (h : PB w1 F g L) (hb : Below w.heap.size w w1) => builder_Type.frame k td tn st et ot hT L hL F g w1 h)
    generalize tyI st et L = i at c1 ⊢
    generalize tyE st et L = j at c1 ⊢
    generalize tyL st et L = L1 at c1 ⊢
    replace h := Aside0.mk h
    clear e1 e2 e3 on_ oc os ot og h1 h2 h3 hT hG hC
    go_enter Tryd.func30, Tryd.ntmps30
    go_wp2_with (first | ((with_reducible refine d_ 3 ?_); refine X_ 3 #[.int .i64 4, .int .i64 n, .string c, .string s, .int .i64 td, .string tn, .slice A ps.length ca, .bool bo, .int .i64 rd, .string rn] 57 ?_; intro gx hg w2 hbox hB2; have hp := Aside0.mk (PB_below h.out hB2); have hS := Aside0.mk ((Stp.refl F w).step hB2); have hb := Aside0.mk hB2; obtain ⟨z0, z1, z2, z3, z4, z5, z6, z7, z8, z9⟩ := c10_ hbox; clear hbox hB2 hg) | ((with_reducible refine gt_ 55 ?_); (try (refine gate_guard (by rfl) ?_; dsimp only)); refine gc_ 37 Tryd.func55 #[.pointer (some ⟨g, 0, none⟩), .agg #[.int .i64 td, .string tn]] ?_; refine (c1.out _ hp.out hb.out).mono ?_; rintro e1 w1 ⟨F1, rfl, hp2, hs2⟩; refine ⟨_, rfl, ?_⟩; clear z0 z1 z2 z3 z4 z5 z6 z7 z8 z9; have n0_ := Aside0.mk hp2; have n1_ := Aside0.mk (hS.out.trans hs2); clear hp hS hp2 hs2 hb; have hp := n0_; have hS := n1_; clear n0_ n1_))
    go_ret2
    exact ⟨_, by first | rfl | simp, hp.out, hS.out⟩
  by_cases k5 : kd = 5
  · subst k5
    have e1 : agI ⟨5, n, c, s, ⟨td, tn⟩, ⟨ps, bo, ⟨rd, rn⟩⟩⟩ ⟨bc, bs, bm, st, et, sg, eg⟩ L = fdI bc bs c s st et L := rfl
    have e2 : agE ⟨5, n, c, s, ⟨td, tn⟩, ⟨ps, bo, ⟨rd, rn⟩⟩⟩ ⟨bc, bs, bm, st, et, sg, eg⟩ L = fdE bc bs c s st et L := rfl
    have e3 : agL ⟨5, n, c, s, ⟨td, tn⟩, ⟨ps, bo, ⟨rd, rn⟩⟩⟩ ⟨bc, bs, bm, st, et, sg, eg⟩ L = fdL bc bs c s st et L := rfl
    rw [e1, e2, e3]
    have c1 := Aside0.mk (fun (w1 : World) (h : PB w1 F g L) (hb : Below w.heap.size w w1) => builder_Field.frame k c s td tn st et bc bs oc os ot h1 h2 hT L hL F g w1 h)
    generalize fdI bc bs c s st et L = i at c1 ⊢
    generalize fdE bc bs c s st et L = j at c1 ⊢
    generalize fdL bc bs c s st et L = L1 at c1 ⊢
    replace h := Aside0.mk h
    clear e1 e2 e3 on_ oc os ot og h1 h2 h3 hT hG hC
    go_enter Tryd.func30, Tryd.ntmps30
    go_wp2_with (first | ((with_reducible refine d_ 3 ?_); refine X_ 3 #[.int .i64 5, .int .i64 n, .string c, .string s, .int .i64 td, .string tn, .slice A ps.length ca, .bool bo, .int .i64 rd, .string rn] 57 ?_; intro gx hg w2 hbox hB2; have hp := Aside0.mk (PB_below h.out hB2); have hS := Aside0.mk ((Stp.refl F w).step hB2); have hb := Aside0.mk hB2; obtain ⟨z0, z1, z2, z3, z4, z5, z6, z7, z8, z9⟩ := c10_ hbox; clear hbox hB2 hg) | ((with_reducible refine gt_ 38 ?_); (try (refine gate_guard (by rfl) ?_; dsimp only)); refine gc_ 49 Tryd.func38 #[.pointer (some ⟨g, 0, none⟩), .string c, .string s, .agg #[.int .i64 td, .string tn]] ?_; refine (c1.out _ hp.out hb.out).mono ?_; rintro e1 w1 ⟨F1, rfl, hp2, hs2⟩; refine ⟨_, rfl, ?_⟩; clear z0 z1 z2 z3 z4 z5 z6 z7 z8 z9; have n0_ := Aside0.mk hp2; have n1_ := Aside0.mk (hS.out.trans hs2); clear hp hS hp2 hs2 hb; have hp := n0_; have hS := n1_; clear n0_ n1_))
    go_ret2
    exact ⟨_, by first | rfl | simp, hp.out, hS.out⟩
  by_cases k6 : kd = 6
  · subst k6
    have e1 : agI ⟨6, n, c, s, ⟨td, tn⟩, ⟨ps, bo, ⟨rd, rn⟩⟩⟩ ⟨bc, bs, bm, st, et, sg, eg⟩ L = mdI bc bm c s sg eg L := rfl
    have e2 : agE ⟨6, n, c, s, ⟨td, tn⟩, ⟨ps, bo, ⟨rd, rn⟩⟩⟩ ⟨bc, bs, bm, st, et, sg, eg⟩ L = mdE bc bm c s sg eg L := rfl
    have e3 : agL ⟨6, n, c, s, ⟨td, tn⟩, ⟨ps, bo, ⟨rd, rn⟩⟩⟩ ⟨bc, bs, bm, st, et, sg, eg⟩ L = mdL bc bm c s sg eg L := rfl
    rw [e1, e2, e3]
    have c1 := Aside0.mk (fun (w1 : World) (h : PB w1 F g L) (hb : Below w.heap.size w w1) => builder_Method.frame k c s A ps.length ca bo rd rn sg eg bc bm oc os og h1 h3 L hL F g w1 h (fun w2 hb2 => desc_SigText.calls k A ca ps bo rd rn sg eg w2 (Kd.C_below hC (below_trans hb0 (below_trans (below_low hb hB0) (below_low hb2 (Nat.le_trans hB0 hb.size))))) hca hG))
    generalize mdI bc bm c s sg eg L = i at c1 ⊢
    generalize mdE bc bm c s sg eg L = j at c1 ⊢
    generalize mdL bc bm c s sg eg L = L1 at c1 ⊢
    replace h := Aside0.mk h
    clear e1 e2 e3 on_ oc os ot og h1 h2 h3 hT hG hC
    go_enter Tryd.func30, Tryd.ntmps30
    go_wp2_with (first | ((with_reducible refine d_ 3 ?_); refine X_ 3 #[.int .i64 6, .int .i64 n, .string c, .string s, .int .i64 td, .string tn, .slice A ps.length ca, .bool bo, .int .i64 rd, .string rn] 57 ?_; intro gx hg w2 hbox hB2; have hp := Aside0.mk (PB_below h.out hB2); have hS := Aside0.mk ((Stp.refl F w).step hB2); have hb := Aside0.mk hB2; obtain ⟨z0, z1, z2, z3, z4, z5, z6, z7, z8, z9⟩ := c10_ hbox; clear hbox hB2 hg) | ((with_reducible refine gt_ 58 ?_); (try (refine gate_guard (by rfl) ?_; dsimp only)); refine gc_ 61 Tryd.func58 #[.pointer (some ⟨g, 0, none⟩), .string c, .string s, .agg #[.slice A ps.length ca, .bool bo, .int .i64 rd, .string rn]] ?_; refine (c1.out _ hp.out hb.out).mono ?_; rintro e1 w1 ⟨F1, rfl, hp2, hs2⟩; refine ⟨_, rfl, ?_⟩; clear z0 z1 z2 z3 z4 z5 z6 z7 z8 z9; have n0_ := Aside0.mk hp2; have n1_ := Aside0.mk (hS.out.trans hs2); clear hp hS hp2 hs2 hb; have hp := n0_; have hS := n1_; clear n0_ n1_))
    go_ret2
    exact ⟨_, by first | rfl | simp, hp.out, hS.out⟩
  have e1 : agI ⟨kd, n, c, s, ⟨td, tn⟩, ⟨ps, bo, ⟨rd, rn⟩⟩⟩ ⟨bc, bs, bm, st, et, sg, eg⟩ L = 0 := by simp [agI, k1, k2, k3, k4, k5, k6]
  have e2 : agE ⟨kd, n, c, s, ⟨td, tn⟩, ⟨ps, bo, ⟨rd, rn⟩⟩⟩ ⟨bc, bs, bm, st, et, sg, eg⟩ L = 3 := by simp [agE, k1, k2, k3, k4, k5, k6]
  have e3 : agL ⟨kd, n, c, s, ⟨td, tn⟩, ⟨ps, bo, ⟨rd, rn⟩⟩⟩ ⟨bc, bs, bm, st, et, sg, eg⟩ L = L := by simp [agL, k1, k2, k3, k4, k5, k6]
  rw [e1, e2, e3]
  have q1 : (kd == 1) = false := beq_eq_false_iff_ne.mpr k1
  have q2 : (kd == 2) = false := beq_eq_false_iff_ne.mpr k2
  have q3 : (kd == 3) = false := beq_eq_false_iff_ne.mpr k3
  have q4 : (kd == 4) = false := beq_eq_false_iff_ne.mpr k4
  have q5 : (kd == 5) = false := beq_eq_false_iff_ne.mpr k5
  have q6 : (kd == 6) = false := beq_eq_false_iff_ne.mpr k6
  replace h := Aside0.mk h
  clear e1 e2 e3 on_ oc os ot og h1 h2 h3 hT hG hC k1 k2 k3 k4 k5 k6
  go_enter Tryd.func30, Tryd.ntmps30
  go_wp2_with (first | ((with_reducible refine d_ 3 ?_); refine X_ 3 #[.int .i64 kd, .int .i64 n, .string c, .string s, .int .i64 td, .string tn, .slice A ps.length ca, .bool bo, .int .i64 rd, .string rn] 57 ?_; intro gx hg w2 hbox hB2; have hp := Aside0.mk (PB_below h.out hB2); have hS := Aside0.mk ((Stp.refl F w).step hB2); have hb := Aside0.mk hB2; obtain ⟨z0, z1, z2, z3, z4, z5, z6, z7, z8, z9⟩ := c10_ hbox; clear hbox hB2 hg))
  go_ret2
  exact ⟨_, by first | rfl | simp, hp.out, hS.out⟩
theorem keystoneref2_Method.below (k : Nat) (a0 : ByteArray) (r : Bool) (w : World) (h : keystoneref2_Method.f k a0 = some r) : Calls Tryd.prog 96 #[.string a0] w fun e w' => e = .returned (.bool r) ∧ Below w.heap.size w w' := by
  refine (keystoneref2_Method.calls k a0 r w h).mono ?_
  rintro e w' ⟨he, hd⟩
  exact ⟨he, hd.below⟩
set_option maxHeartbeats 8000000 in
set_option maxRecDepth 100000 in
theorem told.frame (k : Nat) (x : S57) (v : CW) (ok : CallOk k x v) (okr : CallOkR k x v) (A : Option Addr) (ca : Nat) (hca : x.f5.f0.length ≤ ca) (L : List S50) (hL : L.length ≤ 4096) (F G : Nat → Prop) (g g' : Nat) (A_ : Option Addr) (c_ : Nat) (W0 w : World) (hC : Kd.C k34 W0 A x.f5.f0.length x.f5.f0) (hb0 : Below W0.heap.size W0 w) (hF : ∀ k, Un F G k → W0.heap.size ≤ k) (h : TW w F g L G g' L A_ c_) :
    Calls Tryd.prog 28 #[.pointer (some ⟨g, 0, none⟩), .pointer (some ⟨g', 0, none⟩), .agg #[.int .i64 x.f0, .int .i64 x.f1, .string x.f2, .string x.f3, .int .i64 x.f4.f0, .string x.f4.f1, .slice A x.f5.f0.length ca, .bool x.f5.f1, .int .i64 x.f5.f2.f0, .string x.f5.f2.f1]] w fun e_ w' => ∃ F' G' A' c', e_ = .returned (.bool true) ∧ TW w' F' g (agL x v L) G' g' (agL x v L) A' c' ∧ Stp (Un F G) w (Un F' G') w' := by
  have hB0 : W0.heap.size ≤ w.heap.size := hb0.size
  obtain ⟨kd, n, c, s, ⟨td, tn⟩, ⟨ps, bo, ⟨rd, rn⟩⟩⟩ := x
  obtain ⟨bc, bs, bm, st, et, sg, eg⟩ := v
  obtain ⟨on_, oc, os, ot, og, h1, h2, h3, hT, hG⟩ := ok
  obtain ⟨r1, r2, r3, rT, rG⟩ := okr
  dsimp only at on_ oc os ot og h1 h2 h3 hT hG r1 r2 r3 rT rG hC hca ⊢
  have hbq : ∀ (F1 : Nat → Prop) (w1 : World), Stp (Un F G) w (Un F1 G) w1 → Below W0.heap.size W0 w1 := fun F1 w1 hs => below_trans hb0 (hs.kp.below hF hB0)
  replace hbq := Aside0.mk hbq
  by_cases k1 : kd = 1
  · subst k1
    have e3 : agL ⟨1, n, c, s, ⟨td, tn⟩, ⟨ps, bo, ⟨rd, rn⟩⟩⟩ ⟨bc, bs, bm, st, et, sg, eg⟩ L = txL s L := rfl
    rw [e3]
    have c1 := Aside0.mk (fun (w1 : World) (h : PB w1 F g L) (hb : Below w.heap.size w w1) => builder_Text.frame s os L hL F g w1 h)
    have c2 := Aside0.mk (fun (w1 : World) (h : RB w1 G g' L A_ c_) (hb : Below W0.heap.size W0 w1) => rText.frame s os L hL G g' A_ c_ w1 h)
    generalize txI s L = i at c1 c2 ⊢
    generalize txE s L = j at c1 c2 ⊢
    generalize txL s L = L1 at c1 c2 ⊢
    have qi : (i == i) = true := beq_self_eq_true i
    have qj : (j == j) = true := beq_self_eq_true j
    replace h := Aside0.mk h
    clear e3 on_ oc os ot og h1 h2 h3 hT hG hC r1 r2 r3 rT rG
    go_enter Tryd.func28, Tryd.ntmps28
    go_wp2_with (first | ((with_reducible refine d_ 5 ?_); refine X_ 5 #[.int .i64 1, .int .i64 n, .string c, .string s, .int .i64 td, .string tn, .slice A ps.length ca, .bool bo, .int .i64 rd, .string rn] 57 ?_; intro gx hg w2 hbox hB2; have hq := Aside0.mk (TQ_new h.out hg hbox hB2); have hb := Aside0.mk hB2; obtain ⟨z0, z1, z2, z3, z4, z5, z6, z7, z8, z9⟩ := c10_ hbox; clear hbox hB2 hg) | ((with_reducible refine gt_ 50 ?_); (try (refine gate_guard (by rfl) ?_; dsimp only)); refine gc_ 19 Tryd.func50 #[.pointer (some ⟨g, 0, none⟩), .string s] ?_; refine (c1.out _ hq.out.1.1 hb.out).mono ?_; rintro e1 w1 ⟨F1, rfl, hp2, hs2⟩; refine ⟨_, rfl, ?_⟩; clear z0 z1 z2 z3 z4 z5 z6 z7 z8 z9; have n0_ := Aside0.mk (TQ_left hq.out hp2 hs2); clear hq hp2 hs2 hb; have hq := n0_; clear n0_; obtain ⟨z0, z1, z2, z3, z4, z5, z6, z7, z8, z9⟩ := c10_ hq.out.2.2.2) | ((with_reducible refine gt_ 51 ?_); (try (refine gate_guard (by rfl) ?_; dsimp only)); refine gc_ 26 Tryd.func51 #[.pointer (some ⟨g', 0, none⟩), .string s] ?_; refine (c2.out _ hq.out.1.2.1 (hbq.out _ _ hq.out.2.1)).mono ?_; rintro e2 w3 ⟨G1, A1, k1_, rfl, hp2, hs2⟩; refine ⟨_, rfl, ?_⟩; clear z0 z1 z2 z3 z4 z5 z6 z7 z8 z9; have n0_ := Aside0.mk (TQ_right hq.out hp2 hs2); clear hq hp2 hs2; have hq := n0_; clear n0_))
    go_ret
    exact ⟨_, _, _, _, by first | rfl | simp, hq.out.1, hq.out.2.1⟩
  by_cases k2 : kd = 2
  · subst k2
    have e3 : agL ⟨2, n, c, s, ⟨td, tn⟩, ⟨ps, bo, ⟨rd, rn⟩⟩⟩ ⟨bc, bs, bm, st, et, sg, eg⟩ L = kpL L (putL (eN n) L) := rfl
    rw [e3]
    have c1 := Aside0.mk (fun (w1 : World) (h : PB w1 F g L) (hb : Below w.heap.size w w1) => builder_Number.frame n on_ L hL F g w1 h)
    have c2 := Aside0.mk (fun (w1 : World) (h : RB w1 G g' L A_ c_) (hb : Below W0.heap.size W0 w1) => rNumber.frame n on_ L hL G g' A_ c_ w1 h)
    generalize kpI (putI (eN n) L) (putL (eN n) L) = i at c1 c2 ⊢
    generalize kpE (putL (eN n) L) = j at c1 c2 ⊢
    generalize kpL L (putL (eN n) L) = L1 at c1 c2 ⊢
    have qi : (i == i) = true := beq_self_eq_true i
    have qj : (j == j) = true := beq_self_eq_true j
    replace h := Aside0.mk h
    clear e3 on_ oc os ot og h1 h2 h3 hT hG hC r1 r2 r3 rT rG
    go_enter Tryd.func28, Tryd.ntmps28
    go_wp2_with (first | ((with_reducible refine d_ 5 ?_); refine X_ 5 #[.int .i64 2, .int .i64 n, .string c, .string s, .int .i64 td, .string tn, .slice A ps.length ca, .bool bo, .int .i64 rd, .string rn] 57 ?_; intro gx hg w2 hbox hB2; have hq := Aside0.mk (TQ_new h.out hg hbox hB2); have hb := Aside0.mk hB2; obtain ⟨z0, z1, z2, z3, z4, z5, z6, z7, z8, z9⟩ := c10_ hbox; clear hbox hB2 hg) | ((with_reducible refine gt_ 52 ?_); (try (refine gate_guard (by rfl) ?_; dsimp only)); refine gc_ 35 Tryd.func52 #[.pointer (some ⟨g, 0, none⟩), .int .i64 n] ?_; refine (c1.out _ hq.out.1.1 hb.out).mono ?_; rintro e1 w1 ⟨F1, rfl, hp2, hs2⟩; refine ⟨_, rfl, ?_⟩; clear z0 z1 z2 z3 z4 z5 z6 z7 z8 z9; have n0_ := Aside0.mk (TQ_left hq.out hp2 hs2); clear hq hp2 hs2 hb; have hq := n0_; clear n0_; obtain ⟨z0, z1, z2, z3, z4, z5, z6, z7, z8, z9⟩ := c10_ hq.out.2.2.2) | ((with_reducible refine gt_ 53 ?_); (try (refine gate_guard (by rfl) ?_; dsimp only)); refine gc_ 42 Tryd.func53 #[.pointer (some ⟨g', 0, none⟩), .int .i64 n] ?_; refine (c2.out _ hq.out.1.2.1 (hbq.out _ _ hq.out.2.1)).mono ?_; rintro e2 w3 ⟨G1, A1, k1_, rfl, hp2, hs2⟩; refine ⟨_, rfl, ?_⟩; clear z0 z1 z2 z3 z4 z5 z6 z7 z8 z9; have n0_ := Aside0.mk (TQ_right hq.out hp2 hs2); clear hq hp2 hs2; have hq := n0_; clear n0_))
    go_ret
    exact ⟨_, _, _, _, by first | rfl | simp, hq.out.1, hq.out.2.1⟩
  by_cases k3 : kd = 3
  · subst k3
    have e3 : agL ⟨3, n, c, s, ⟨td, tn⟩, ⟨ps, bo, ⟨rd, rn⟩⟩⟩ ⟨bc, bs, bm, st, et, sg, eg⟩ L = clL bc c L := rfl
    rw [e3]
    have c1 := Aside0.mk (fun (w1 : World) (h : PB w1 F g L) (hb : Below w.heap.size w w1) => builder_Class.frame k c oc bc h1 L hL F g w1 h)
    have c2 := Aside0.mk (fun (w1 : World) (h : RB w1 G g' L A_ c_) (hb : Below W0.heap.size W0 w1) => rClass.frame k c oc bc r1 L hL G g' A_ c_ w1 h)
    generalize clI bc c L = i at c1 c2 ⊢
    generalize clE bc c L = j at c1 c2 ⊢
    generalize clL bc c L = L1 at c1 c2 ⊢
    have qi : (i == i) = true := beq_self_eq_true i
    have qj : (j == j) = true := beq_self_eq_true j
    replace h := Aside0.mk h
    clear e3 on_ oc os ot og h1 h2 h3 hT hG hC r1 r2 r3 rT rG
    go_enter Tryd.func28, Tryd.ntmps28
    go_wp2_with (first | ((with_reducible refine d_ 5 ?_); refine X_ 5 #[.int .i64 3, .int .i64 n, .string c, .string s, .int .i64 td, .string tn, .slice A ps.length ca, .bool bo, .int .i64 rd, .string rn] 57 ?_; intro gx hg w2 hbox hB2; have hq := Aside0.mk (TQ_new h.out hg hbox hB2); have hb := Aside0.mk hB2; obtain ⟨z0, z1, z2, z3, z4, z5, z6, z7, z8, z9⟩ := c10_ hbox; clear hbox hB2 hg) | ((with_reducible refine gt_ 37 ?_); (try (refine gate_guard (by rfl) ?_; dsimp only)); refine gc_ 51 Tryd.func37 #[.pointer (some ⟨g, 0, none⟩), .string c] ?_; refine (c1.out _ hq.out.1.1 hb.out).mono ?_; rintro e1 w1 ⟨F1, rfl, hp2, hs2⟩; refine ⟨_, rfl, ?_⟩; clear z0 z1 z2 z3 z4 z5 z6 z7 z8 z9; have n0_ := Aside0.mk (TQ_left hq.out hp2 hs2); clear hq hp2 hs2 hb; have hq := n0_; clear n0_; obtain ⟨z0, z1, z2, z3, z4, z5, z6, z7, z8, z9⟩ := c10_ hq.out.2.2.2) | ((with_reducible refine gt_ 54 ?_); (try (refine gate_guard (by rfl) ?_; dsimp only)); refine gc_ 58 Tryd.func54 #[.pointer (some ⟨g', 0, none⟩), .string c] ?_; refine (c2.out _ hq.out.1.2.1 (hbq.out _ _ hq.out.2.1)).mono ?_; rintro e2 w3 ⟨G1, A1, k1_, rfl, hp2, hs2⟩; refine ⟨_, rfl, ?_⟩; clear z0 z1 z2 z3 z4 z5 z6 z7 z8 z9; have n0_ := Aside0.mk (TQ_right hq.out hp2 hs2); clear hq hp2 hs2; have hq := n0_; clear n0_))
    go_ret
    exact ⟨_, _, _, _, by first | rfl | simp, hq.out.1, hq.out.2.1⟩
  by_cases k4 : kd = 4
  · subst k4
    have e3 : agL ⟨4, n, c, s, ⟨td, tn⟩, ⟨ps, bo, ⟨rd, rn⟩⟩⟩ ⟨bc, bs, bm, st, et, sg, eg⟩ L = tyL st et L := rfl
    rw [e3]
    have c1 := Aside0.mk (fun (w1 : World) (h : PB w1 F g L) (hb : Below w.heap.size w w1) => builder_Type.frame k td tn st et ot hT L hL F g w1 h)
    have c2 := Aside0.mk (fun (w1 : World) (h : RB w1 G g' L A_ c_) (hb : Below W0.heap.size W0 w1) => rType.frame td tn st et ot L hL G g' A_ c_ w1 h (fun w2 _ => keystoneref2_TypeText.calls k td tn st et w2 rT))
    generalize tyI st et L = i at c1 c2 ⊢
    generalize tyE st et L = j at c1 c2 ⊢
    generalize tyL st et L = L1 at c1 c2 ⊢
    have qi : (i == i) = true := beq_self_eq_true i
    have qj : (j == j) = true := beq_self_eq_true j
    replace h := Aside0.mk h
    clear e3 on_ oc os ot og h1 h2 h3 hT hG hC r1 r2 r3 rT rG
    go_enter Tryd.func28, Tryd.ntmps28
    go_wp2_with (first | ((with_reducible refine d_ 5 ?_); refine X_ 5 #[.int .i64 4, .int .i64 n, .string c, .string s, .int .i64 td, .string tn, .slice A ps.length ca, .bool bo, .int .i64 rd, .string rn] 57 ?_; intro gx hg w2 hbox hB2; have hq := Aside0.mk (TQ_new h.out hg hbox hB2); have hb := Aside0.mk hB2; obtain ⟨z0, z1, z2, z3, z4, z5, z6, z7, z8, z9⟩ := c10_ hbox; clear hbox hB2 hg) | ((with_reducible refine gt_ 55 ?_); (try (refine gate_guard (by rfl) ?_; dsimp only)); refine gc_ 67 Tryd.func55 #[.pointer (some ⟨g, 0, none⟩), .agg #[.int .i64 td, .string tn]] ?_; refine (c1.out _ hq.out.1.1 hb.out).mono ?_; rintro e1 w1 ⟨F1, rfl, hp2, hs2⟩; refine ⟨_, rfl, ?_⟩; clear z0 z1 z2 z3 z4 z5 z6 z7 z8 z9; have n0_ := Aside0.mk (TQ_left hq.out hp2 hs2); clear hq hp2 hs2 hb; have hq := n0_; clear n0_; obtain ⟨z0, z1, z2, z3, z4, z5, z6, z7, z8, z9⟩ := c10_ hq.out.2.2.2) | ((with_reducible refine gt_ 56 ?_); (try (refine gate_guard (by rfl) ?_; dsimp only)); refine gc_ 74 Tryd.func56 #[.pointer (some ⟨g', 0, none⟩), .agg #[.int .i64 td, .string tn]] ?_; refine (c2.out _ hq.out.1.2.1 (hbq.out _ _ hq.out.2.1)).mono ?_; rintro e2 w3 ⟨G1, A1, k1_, rfl, hp2, hs2⟩; refine ⟨_, rfl, ?_⟩; clear z0 z1 z2 z3 z4 z5 z6 z7 z8 z9; have n0_ := Aside0.mk (TQ_right hq.out hp2 hs2); clear hq hp2 hs2; have hq := n0_; clear n0_))
    go_ret
    exact ⟨_, _, _, _, by first | rfl | simp, hq.out.1, hq.out.2.1⟩
  by_cases k5 : kd = 5
  · subst k5
    have e3 : agL ⟨5, n, c, s, ⟨td, tn⟩, ⟨ps, bo, ⟨rd, rn⟩⟩⟩ ⟨bc, bs, bm, st, et, sg, eg⟩ L = fdL bc bs c s st et L := rfl
    rw [e3]
    have c1 := Aside0.mk (fun (w1 : World) (h : PB w1 F g L) (hb : Below w.heap.size w w1) => builder_Field.frame k c s td tn st et bc bs oc os ot h1 h2 hT L hL F g w1 h)
    have c2 := Aside0.mk (fun (w1 : World) (h : RB w1 G g' L A_ c_) (hb : Below W0.heap.size W0 w1) => rField.frame k c s td tn st et bc bs oc os ot r1 r2 L hL G g' A_ c_ w1 h (fun w2 _ => keystoneref2_TypeText.calls k td tn st et w2 rT))
    generalize fdI bc bs c s st et L = i at c1 c2 ⊢
    generalize fdE bc bs c s st et L = j at c1 c2 ⊢
    generalize fdL bc bs c s st et L = L1 at c1 c2 ⊢
    have qi : (i == i) = true := beq_self_eq_true i
    have qj : (j == j) = true := beq_self_eq_true j
    replace h := Aside0.mk h
    clear e3 on_ oc os ot og h1 h2 h3 hT hG hC r1 r2 r3 rT rG
    go_enter Tryd.func28, Tryd.ntmps28
    go_wp2_with (first | ((with_reducible refine d_ 5 ?_); refine X_ 5 #[.int .i64 5, .int .i64 n, .string c, .string s, .int .i64 td, .string tn, .slice A ps.length ca, .bool bo, .int .i64 rd, .string rn] 57 ?_; intro gx hg w2 hbox hB2; have hq := Aside0.mk (TQ_new h.out hg hbox hB2); have hb := Aside0.mk hB2; obtain ⟨z0, z1, z2, z3, z4, z5, z6, z7, z8, z9⟩ := c10_ hbox; clear hbox hB2 hg) | ((with_reducible refine gt_ 38 ?_); (try (refine gate_guard (by rfl) ?_; dsimp only)); refine gc_ 87 Tryd.func38 #[.pointer (some ⟨g, 0, none⟩), .string c, .string s, .agg #[.int .i64 td, .string tn]] ?_; refine (c1.out _ hq.out.1.1 hb.out).mono ?_; rintro e1 w1 ⟨F1, rfl, hp2, hs2⟩; refine ⟨_, rfl, ?_⟩; clear z0 z1 z2 z3 z4 z5 z6 z7 z8 z9; have n0_ := Aside0.mk (TQ_left hq.out hp2 hs2); clear hq hp2 hs2 hb; have hq := n0_; clear n0_; obtain ⟨z0, z1, z2, z3, z4, z5, z6, z7, z8, z9⟩ := c10_ hq.out.2.2.2) | ((with_reducible refine gt_ 57 ?_); (try (refine gate_guard (by rfl) ?_; dsimp only)); refine gc_ 98 Tryd.func57 #[.pointer (some ⟨g', 0, none⟩), .string c, .string s, .agg #[.int .i64 td, .string tn]] ?_; refine (c2.out _ hq.out.1.2.1 (hbq.out _ _ hq.out.2.1)).mono ?_; rintro e2 w3 ⟨G1, A1, k1_, rfl, hp2, hs2⟩; refine ⟨_, rfl, ?_⟩; clear z0 z1 z2 z3 z4 z5 z6 z7 z8 z9; have n0_ := Aside0.mk (TQ_right hq.out hp2 hs2); clear hq hp2 hs2; have hq := n0_; clear n0_))
    go_ret
    exact ⟨_, _, _, _, by first | rfl | simp, hq.out.1, hq.out.2.1⟩
  by_cases k6 : kd = 6
  · subst k6
    have e3 : agL ⟨6, n, c, s, ⟨td, tn⟩, ⟨ps, bo, ⟨rd, rn⟩⟩⟩ ⟨bc, bs, bm, st, et, sg, eg⟩ L = mdL bc bm c s sg eg L := rfl
    rw [e3]
    have c1 := Aside0.mk (fun (w1 : World) (h : PB w1 F g L) (hb : Below w.heap.size w w1) => builder_Method.frame k c s A ps.length ca bo rd rn sg eg bc bm oc os og h1 h3 L hL F g w1 h (fun w2 hb2 => desc_SigText.calls k A ca ps bo rd rn sg eg w2 (Kd.C_below hC (below_trans hb0 (below_trans (below_low hb hB0) (below_low hb2 (Nat.le_trans hB0 hb.size))))) hca hG))
    have c2 := Aside0.mk (fun (w1 : World) (h : RB w1 G g' L A_ c_) (hb : Below W0.heap.size W0 w1) => rMethod.frame k c s A ps.length ca bo rd rn sg eg bc bm oc os og r1 L hL G g' A_ c_ w1 h (fun w2 _ => keystoneref2_Method.below k s bm w2 r3) (fun w2 hb2 => keystoneref2_SigText.calls k A ca ps bo rd rn sg eg w2 (Kd.C_below hC (below_trans hb (below_low hb2 hb.size))) hca rG))
    generalize mdI bc bm c s sg eg L = i at c1 c2 ⊢
    generalize mdE bc bm c s sg eg L = j at c1 c2 ⊢
    generalize mdL bc bm c s sg eg L = L1 at c1 c2 ⊢
    have qi : (i == i) = true := beq_self_eq_true i
    have qj : (j == j) = true := beq_self_eq_true j
    replace h := Aside0.mk h
    clear e3 on_ oc os ot og h1 h2 h3 hT hG hC r1 r2 r3 rT rG
    go_enter Tryd.func28, Tryd.ntmps28
    go_wp2_with (first | ((with_reducible refine d_ 5 ?_); refine X_ 5 #[.int .i64 6, .int .i64 n, .string c, .string s, .int .i64 td, .string tn, .slice A ps.length ca, .bool bo, .int .i64 rd, .string rn] 57 ?_; intro gx hg w2 hbox hB2; have hq := Aside0.mk (TQ_new h.out hg hbox hB2); have hb := Aside0.mk hB2; obtain ⟨z0, z1, z2, z3, z4, z5, z6, z7, z8, z9⟩ := c10_ hbox; clear hbox hB2 hg) | ((with_reducible refine gt_ 58 ?_); (try (refine gate_guard (by rfl) ?_; dsimp only)); refine gc_ 111 Tryd.func58 #[.pointer (some ⟨g, 0, none⟩), .string c, .string s, .agg #[.slice A ps.length ca, .bool bo, .int .i64 rd, .string rn]] ?_; refine (c1.out _ hq.out.1.1 hb.out).mono ?_; rintro e1 w1 ⟨F1, rfl, hp2, hs2⟩; refine ⟨_, rfl, ?_⟩; clear z0 z1 z2 z3 z4 z5 z6 z7 z8 z9; have n0_ := Aside0.mk (TQ_left hq.out hp2 hs2); clear hq hp2 hs2 hb; have hq := n0_; clear n0_; obtain ⟨z0, z1, z2, z3, z4, z5, z6, z7, z8, z9⟩ := c10_ hq.out.2.2.2) | ((with_reducible refine gt_ 59 ?_); (try (refine gate_guard (by rfl) ?_; dsimp only)); refine gc_ 122 Tryd.func59 #[.pointer (some ⟨g', 0, none⟩), .string c, .string s, .agg #[.slice A ps.length ca, .bool bo, .int .i64 rd, .string rn]] ?_; refine (c2.out _ hq.out.1.2.1 (hbq.out _ _ hq.out.2.1)).mono ?_; rintro e2 w3 ⟨G1, A1, k1_, rfl, hp2, hs2⟩; refine ⟨_, rfl, ?_⟩; clear z0 z1 z2 z3 z4 z5 z6 z7 z8 z9; have n0_ := Aside0.mk (TQ_right hq.out hp2 hs2); clear hq hp2 hs2; have hq := n0_; clear n0_))
    go_ret
    exact ⟨_, _, _, _, by first | rfl | simp, hq.out.1, hq.out.2.1⟩
  have e3 : agL ⟨kd, n, c, s, ⟨td, tn⟩, ⟨ps, bo, ⟨rd, rn⟩⟩⟩ ⟨bc, bs, bm, st, et, sg, eg⟩ L = L := by simp [agL, k1, k2, k3, k4, k5, k6]
  rw [e3]
  have q1 : (kd == 1) = false := beq_eq_false_iff_ne.mpr k1
  have q2 : (kd == 2) = false := beq_eq_false_iff_ne.mpr k2
  have q3 : (kd == 3) = false := beq_eq_false_iff_ne.mpr k3
  have q4 : (kd == 4) = false := beq_eq_false_iff_ne.mpr k4
  have q5 : (kd == 5) = false := beq_eq_false_iff_ne.mpr k5
  have q6 : (kd == 6) = false := beq_eq_false_iff_ne.mpr k6
  replace h := Aside0.mk h
  clear e3 on_ oc os ot og h1 h2 h3 hT hG hC r1 r2 r3 rT rG k1 k2 k3 k4 k5 k6
  go_enter Tryd.func28, Tryd.ntmps28
  go_wp2_with (first | ((with_reducible refine d_ 5 ?_); refine X_ 5 #[.int .i64 kd, .int .i64 n, .string c, .string s, .int .i64 td, .string tn, .slice A ps.length ca, .bool bo, .int .i64 rd, .string rn] 57 ?_; intro gx hg w2 hbox hB2; have hq := Aside0.mk (TQ_new h.out hg hbox hB2); have hb := Aside0.mk hB2; obtain ⟨z0, z1, z2, z3, z4, z5, z6, z7, z8, z9⟩ := c10_ hbox; clear hbox hB2 hg))
  go_ret
  exact ⟨_, _, _, _, by first | rfl | simp, hq.out.1, hq.out.2.1⟩
end Go.Proofs.YtldejfkplnejjaaDoor.P
namespace Go.Proofs.YtldejfkplnejjaaDoor.P
open Go.Maps Go.WideMaps Go.MapKept
open Go.RowKit Go.Proofs.YtldejfkplnejjaaDoorW.PrintWords Go.Proofs.YtldejfkplnejjaaDoorW.PrintLast Go.Proofs.YtldejfkplnejjaaDoorW.PrintMore
set_option linter.unusedVariables false
set_option linter.unusedSimpArgs false
theorem own_at {W : World} {base gm n cm : Nat} {ok : Nat → Prop} {ys : List S50} (h : Kd.R k50 50 W base ok (.slice (some ⟨gm, 0, none⟩) n cm) ys) (i : Nat) (hi : i < n) :
    ∃ y : S50, W.cell? ⟨gm, i * 6, none⟩ = some (.int .i64 y.f0) ∧ W.cell? ⟨gm, i * 6 + 1, none⟩ = some (.string y.f1) ∧ W.cell? ⟨gm, i * 6 + 2, none⟩ = some (.int .i64 y.f2) ∧ W.cell? ⟨gm, i * 6 + 3, none⟩ = some (.int .i64 y.f3) ∧ W.cell? ⟨gm, i * 6 + 4, none⟩ = some (.int .i64 y.f4) ∧ W.cell? ⟨gm, i * 6 + 5, none⟩ = some (.int .i64 y.f5) ∧ W.frozen? ⟨gm, i * 6, none⟩ = false ∧ W.frozen? ⟨gm, i * 6 + 1, none⟩ = false ∧ W.frozen? ⟨gm, i * 6 + 2, none⟩ = false ∧ W.frozen? ⟨gm, i * 6 + 3, none⟩ = false ∧ W.frozen? ⟨gm, i * 6 + 4, none⟩ = false ∧ W.frozen? ⟨gm, i * 6 + 5, none⟩ = false := by
  obtain ⟨c, hcl, hM, hcc, hfr⟩ := Kd.R_elem h z50 (i : Int) (by omega) (by omega)
  obtain rfl := k50_openM hM
  rw [Int.toNat_natCast] at hM hcc hfr
  simp only [show (k50).sz = 6 from rfl] at hcc hfr
  exact ⟨_, hcc 0 _ rfl, hcc 1 _ rfl, hcc 2 _ rfl, hcc 3 _ rfl, hcc 4 _ rfl, hcc 5 _ rfl, hfr 0, hfr 1, hfr 2, hfr 3, hfr 4, hfr 5⟩
theorem own_set {W : World} {base gm n cm : Nat} {ok : Nat → Prop} {ys : List S50} (h : Kd.R k50 50 W base ok (.slice (some ⟨gm, 0, none⟩) n cm) ys) (i : Nat) (hi : i < n) (x : S50) :
    Kd.R k50 50 ((((((W.setCell ⟨gm, i * 6, none⟩ (.int .i64 x.f0)).setCell ⟨gm, i * 6 + 1, none⟩ (.string x.f1)).setCell ⟨gm, i * 6 + 2, none⟩ (.int .i64 x.f2)).setCell ⟨gm, i * 6 + 3, none⟩ (.int .i64 x.f3)).setCell ⟨gm, i * 6 + 4, none⟩ (.int .i64 x.f4)).setCell ⟨gm, i * 6 + 5, none⟩ (.int .i64 x.f5)) base ok (.slice (some ⟨gm, 0, none⟩) n cm) (ys.set i x) ∧ W.grownBy ((((((W.setCell ⟨gm, i * 6, none⟩ (.int .i64 x.f0)).setCell ⟨gm, i * 6 + 1, none⟩ (.string x.f1)).setCell ⟨gm, i * 6 + 2, none⟩ (.int .i64 x.f2)).setCell ⟨gm, i * 6 + 3, none⟩ (.int .i64 x.f3)).setCell ⟨gm, i * 6 + 4, none⟩ (.int .i64 x.f4)).setCell ⟨gm, i * 6 + 5, none⟩ (.int .i64 x.f5)) (some gm) := by
  obtain ⟨c, hcl, hM, hcc, hfr⟩ := Kd.R_elem h z50 (i : Int) (by omega) (by omega)
  obtain rfl := k50_openM hM
  have hp := Kd.R_seg h (i : Int) (by omega) (by omega) (seg := [.int .i64 x.f0, .string x.f1, .int .i64 x.f2, .int .i64 x.f3, .int .i64 x.f4, .int .i64 x.f5]) (j := 0) hcl hcc (show 6 ≤ 6 from by decide) (x' := x) (k50_mkM _ _ _ x) (fun _ hk => hk)
  rw [Int.toNat_natCast] at hp
  exact hp
theorem own_form {W : World} {base n cm : Nat} {ok : Nat → Prop} {A : Option Addr} {ys : List S50} (h : Kd.R k50 50 W base ok (.slice A n cm) ys) (hn : 0 < n) : ∃ gm, A = some ⟨gm, 0, none⟩ ∧ ok gm ∧ base ≤ gm := by
  have e := (Kd.R_reads' h).1
  obtain ⟨gm, cap, hAo, hb, _, _⟩ := Kd.R_form h (by omega)
  obtain ⟨rfl, _, _⟩ : A = some ⟨gm, 0, none⟩ ∧ n = ys.length ∧ cm = cap := by simpa using hAo
  exact ⟨gm, rfl, h.1 gm rfl, hb⟩
theorem weak_ {P : Program} {md : Region.Mode} {ops : Array Oper} {Q : Exit → Act → World → Prop} {ds : List Nat} (S : World → Prop) : ∀ {n : Nat} {l : Array Bool} {a : Act} {w : World}, wpAnyLast P md ops Q S ds n l a w → wpAnyLast P md ops Q (fun _ => True) ds n l a w
  | 0, _, _, _, h => h
  | _ + 1, _, _, _, h => ⟨h.1, fun i hi => wpOp_mono (fun _ _ h' => ⟨fun _ _ => trivial, weak_ S h'.2⟩) (h.2 i hi)⟩
theorem TW_new {w1 w2 : World} {F G : Nat → Prop} {g g' : Nat} {L M : List S50} {A : Option Addr} {c : Nat} (hp : PB w1 F g L) (hq : RB w2 G g' M A c) (ht : Stp (fun _ => False) w1 G w2) : TW w2 F g L G g' M A c :=
  ⟨PB_kept hp ht.kp.size (fun k hf => ht.kp.block k (PB_lt hp k hf) (fun h => h)), hq, fun k h1 h2 => (ht.own k h2).elim (fun h => h) (fun h => absurd (PB_lt hp k h1) (Nat.not_lt.2 h))⟩
theorem un_new {w w1 w2 : World} {F G : Nat → Prop} (hs : Stp (fun _ => False) w F w1) (ht : Stp (fun _ => False) w1 G w2) : ∀ k, Un F G k → w.heap.size ≤ k := fun k hk => hk.elim (fun h => (hs.own k h).elim (fun h => h.elim) id) (fun h => (ht.own k h).elim (fun h => h.elim) (Nat.le_trans hs.kp.size))
def BI (w w' : World) (F : Nat → Prop) (g : Nat) (L : List S50) (G : Nat → Prop) (g' : Nat) (A : Option Addr) (c : Nat) : Prop := TW w' F g L G g' L A c ∧ L.length ≤ 4096 ∧ (∀ k, Un F G k → w.heap.size ≤ k) ∧ Below w.heap.size w w'
theorem BI_below {w w1 w2 : World} {F : Nat → Prop} {g : Nat} {L : List S50} {G : Nat → Prop} {g' : Nat} {A : Option Addr} {c : Nat} (h : BI w w1 F g L G g' A c) (hb : Below w1.heap.size w1 w2) : BI w w2 F g L G g' A c := ⟨TW_below h.1 hb, h.2.1, h.2.2.1, below_then h.2.2.2 h.2.2.2.size hb⟩
theorem BI_kept {w w1 w2 : World} {F : Nat → Prop} {g : Nat} {L : List S50} {G : Nat → Prop} {g' : Nat} {A : Option Addr} {c gm : Nat} (h : BI w w1 F g L G g' A c) (hg : w1.grownBy w2 (some gm)) (hd : ¬ Un F G gm) (hm : w.heap.size ≤ gm) : BI w w2 F g L G g' A c :=
  have hk : Kp (fun k => k = gm) w1 w2 := Kp.grown (Kp.refl _ _) hg (fun k e _ => (Option.some.inj e).symm)
  ⟨TW_kept h.1 hk (fun k hu e => hd (e ▸ hu)), h.2.1, h.2.2.1, below_trans h.2.2.2 (hk.below (fun k e => e ▸ hm) h.2.2.2.size)⟩
theorem BI_step {w w1 w2 : World} {F F1 : Nat → Prop} {g : Nat} {L L1 : List S50} {G G1 : Nat → Prop} {g' : Nat} {A A1 : Option Addr} {c c1 : Nat} (h : BI w w1 F g L G g' A c) (ht : TW w2 F1 g L1 G1 g' L1 A1 c1) (hL : L1.length ≤ 4096) (hs : Stp (Un F G) w1 (Un F1 G1) w2) : BI w w2 F1 g L1 G1 g' A1 c1 :=
  ⟨ht, hL, hs.low h.2.2.1 h.2.2.2.size, below_trans h.2.2.2 (hs.kp.below h.2.2.1 h.2.2.2.size)⟩
theorem BI_told {k : Nat} {x : S57} {v : CW} (ok : CallOk k x v) (okr : CallOkR k x v) {Ax : Option Addr} {cx : Nat} (hcx : x.f5.f0.length ≤ cx) {w w1 : World} {F : Nat → Prop} {g : Nat} {L : List S50} {G : Nat → Prop} {g' : Nat} {A : Option Addr} {c : Nat} (hCx : Kd.C k34 w Ax x.f5.f0.length x.f5.f0) (h : BI w w1 F g L G g' A c) :
    Calls Tryd.prog 28 #[.pointer (some ⟨g, 0, none⟩), .pointer (some ⟨g', 0, none⟩), .agg #[.int .i64 x.f0, .int .i64 x.f1, .string x.f2, .string x.f3, .int .i64 x.f4.f0, .string x.f4.f1, .slice Ax x.f5.f0.length cx, .bool x.f5.f1, .int .i64 x.f5.f2.f0, .string x.f5.f2.f1]] w1 fun e_ w' => ∃ F' G' A' c', e_ = .returned (.bool true) ∧ BI w w' F' g (agL x v L) G' g' A' c' := by
  refine (told.frame k x v ok okr Ax cx hcx L h.2.1 F G g g' A c w w1 hCx h.2.2.2 h.2.2.1 h.1).mono ?_
  rintro e w' ⟨F', G', A', c', rfl, ht, hs⟩
  exact ⟨F', G', A', c', rfl, BI_step h ht (agL_len x v h.2.1) hs⟩
theorem BI_pool {w w1 : World} {F : Nat → Prop} {g : Nat} {L : List S50} {G : Nat → Prop} {g' : Nat} {A : Option Addr} {c : Nat} (h : BI w w1 F g L G g' A c) :
    Calls Tryd.prog 29 #[.pointer (some ⟨g, 0, none⟩)] w1 fun e_ w' => ∃ v : Value, e_ = .returned v ∧ Kd.R k50 50 w' w1.heap.size (fun _ => True) v L ∧ Below w1.heap.size w1 w' := builder_Pool.frame L (by have := h.2.1; omega) F g w1 h.1.1
theorem BI_cell {w w1 : World} {F : Nat → Prop} {g : Nat} {L : List S50} {G : Nat → Prop} {g' : Nat} {A : Option Addr} {c : Nat} (h : BI w w1 F g L G g' A c) : w1.cell? ⟨g', 0, none⟩ = some (.slice A L.length c) := (blk_cell h.1.2.1.2.1 0).trans rfl
theorem BI_same {k : Nat} {w w1 : World} {F : Nat → Prop} {g : Nat} {L : List S50} {G : Nat → Prop} {g' : Nat} {A : Option Addr} {c : Nat} (h : BI w w1 F g L G g' A c) {Av : Option Addr} {cv b : Nat} (ho : Kd.R k50 50 w1 b (fun _ => True) (.slice Av L.length cv) L) (hsm : keystonelaw3_Same.f k L L = some true) :
    Calls Tryd.prog 17 #[.slice Av L.length cv, .slice A L.length c] w1 fun e_ w' => e_ = .returned (.bool true) ∧ Below w1.heap.size w1 w' :=
  (keystonelaw3_Same.calls k Av cv L A c L true _ (Kd.R_reads' ho).2.2 (Kd.R_reads' ho).2.1 (Kd.R_reads' h.1.2.1.2.2.1).2.2 (Kd.R_reads' h.1.2.1.2.2.1).2.1 hsm).mono (fun e w' ⟨he, hd⟩ => ⟨he, hd.below⟩)
theorem C57_below {w w1 : World} {ad : Addr} {i : Nat} {x : S57} {Ax : Option Addr} {cx : Nat} (hb : Below w.heap.size w w1)
    (h : (w.cell? (ad.add (i * 10)) = some (.int .i64 x.f0) ∧ w.cell? ⟨(ad.add (i * 10)).block, (ad.add (i * 10)).off + 1, none⟩ = some (.int .i64 x.f1) ∧ w.cell? ⟨(ad.add (i * 10)).block, (ad.add (i * 10)).off + 2, none⟩ = some (.string x.f2) ∧ w.cell? ⟨(ad.add (i * 10)).block, (ad.add (i * 10)).off + 3, none⟩ = some (.string x.f3) ∧ w.cell? ⟨(ad.add (i * 10)).block, (ad.add (i * 10)).off + 4, none⟩ = some (.int .i64 x.f4.f0) ∧ w.cell? ⟨(ad.add (i * 10)).block, (ad.add (i * 10)).off + 5, none⟩ = some (.string x.f4.f1) ∧ w.cell? ⟨(ad.add (i * 10)).block, (ad.add (i * 10)).off + 6, none⟩ = some (.slice Ax x.f5.f0.length cx) ∧ w.cell? ⟨(ad.add (i * 10)).block, (ad.add (i * 10)).off + 7, none⟩ = some (.bool x.f5.f1) ∧ w.cell? ⟨(ad.add (i * 10)).block, (ad.add (i * 10)).off + 8, none⟩ = some (.int .i64 x.f5.f2.f0) ∧ w.cell? ⟨(ad.add (i * 10)).block, (ad.add (i * 10)).off + 9, none⟩ = some (.string x.f5.f2.f1))) : (w1.cell? (ad.add (i * 10)) = some (.int .i64 x.f0) ∧ w1.cell? ⟨(ad.add (i * 10)).block, (ad.add (i * 10)).off + 1, none⟩ = some (.int .i64 x.f1) ∧ w1.cell? ⟨(ad.add (i * 10)).block, (ad.add (i * 10)).off + 2, none⟩ = some (.string x.f2) ∧ w1.cell? ⟨(ad.add (i * 10)).block, (ad.add (i * 10)).off + 3, none⟩ = some (.string x.f3) ∧ w1.cell? ⟨(ad.add (i * 10)).block, (ad.add (i * 10)).off + 4, none⟩ = some (.int .i64 x.f4.f0) ∧ w1.cell? ⟨(ad.add (i * 10)).block, (ad.add (i * 10)).off + 5, none⟩ = some (.string x.f4.f1) ∧ w1.cell? ⟨(ad.add (i * 10)).block, (ad.add (i * 10)).off + 6, none⟩ = some (.slice Ax x.f5.f0.length cx) ∧ w1.cell? ⟨(ad.add (i * 10)).block, (ad.add (i * 10)).off + 7, none⟩ = some (.bool x.f5.f1) ∧ w1.cell? ⟨(ad.add (i * 10)).block, (ad.add (i * 10)).off + 8, none⟩ = some (.int .i64 x.f5.f2.f0) ∧ w1.cell? ⟨(ad.add (i * 10)).block, (ad.add (i * 10)).off + 9, none⟩ = some (.string x.f5.f2.f1)) := by
  obtain ⟨z0, z1, z2, z3, z4, z5, z6, z7, z8, z9⟩ := h
  have hc : ∀ (p : Addr) (v : Value), w.cell? p = some v → w1.cell? p = some v := fun p v h => (hb.cell (World.block_lt_of_cell? _ _ h)).trans h
  exact ⟨hc _ _ z0, hc _ _ z1, hc _ _ z2, hc _ _ z3, hc _ _ z4, hc _ _ z5, hc _ _ z6, hc _ _ z7, hc _ _ z8, hc _ _ z9⟩
end Go.Proofs.YtldejfkplnejjaaDoor.P
