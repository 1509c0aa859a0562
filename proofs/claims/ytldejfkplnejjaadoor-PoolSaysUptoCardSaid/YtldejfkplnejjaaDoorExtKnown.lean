/- The builder's other functions as far as the chapter's first example goes, and the example. -/
import Derived.Test.YtldejfkplnejjaaDoorExtPool
import Derived.Test.YtldejfkplnejjaaDoorExtText
import Derived.Test.YtldejfkplnejjaaDoorP3
import Derived.Test.YtldejfkplnejjaaDoorP5
namespace Go.Proofs.YtldejfkplnejjaaDoor.P
open Go.Maps Go.WideMaps Go.MapKept
open Go.RowKit Go.Proofs.YtldejfkplnejjaaDoorW.PrintWords Go.Proofs.YtldejfkplnejjaaDoorW.PrintLast Go.Proofs.YtldejfkplnejjaaDoorW.PrintMore
set_option linter.unusedVariables false
set_option linter.unusedSimpArgs false
def eT (s : ByteArray) : S50 := ⟨1, s, 0, 0, 0, 0⟩
def eC (a : Int) : S50 := ⟨3, ⟨#[]⟩, 0, a, 0, 0⟩
def eM (k a b c : Int) : S50 := ⟨k, ⟨#[]⟩, 0, a, b, c⟩
theorem putL_len (x : S50) (L : List S50) : L.length ≤ (putL x L).length ∧ (putL x L).length ≤ L.length + 1 := by
  unfold putL
  split <;> simp
theorem putI_in (x : S50) (L : List S50) : 0 ≤ putI x L ∧ putI x L ≤ L.length := by
  unfold putI
  split
  · rename_i i h
    have := fstI_lt h
    omega
  · omega
theorem wf_0 : (Lit.int .i64 0).wf = true := by decide
theorem okE_T {s : ByteArray} (h : s.size ≤ maxLen) : okE (eT s) := ⟨(by decide : (Lit.int .i64 1).wf = true), h, wf_0, wf_0, wf_0, wf_0⟩
theorem okE_C {a : Int} (h : 0 ≤ a) (h' : a ≤ 1000000000000) : okE (eC a) := ⟨(by decide : (Lit.int .i64 3).wf = true), Nat.zero_le _, wf_0, WalkArith.wf_i64 (by simp only [eC]; omega), wf_0, wf_0⟩
theorem okE_M {k a b c : Int} (hk : 0 ≤ k ∧ k ≤ 1000000000000) (ha : 0 ≤ a ∧ a ≤ 1000000000000) (hb : 0 ≤ b ∧ b ≤ 1000000000000) (hc : 0 ≤ c ∧ c ≤ 1000000000000) : okE (eM k a b c) :=
  ⟨WalkArith.wf_i64 (by simp only [eM]; omega), Nat.zero_le _, wf_0, WalkArith.wf_i64 (by simp only [eM]; omega), WalkArith.wf_i64 (by simp only [eM]; omega), WalkArith.wf_i64 (by simp only [eM]; omega)⟩
theorem PS_below {w w1 : World} {base g : Nat} {L : List S50} (h : PS w base g L) (hb : Below w.heap.size w w1) : PS w1 base g L := by
  obtain ⟨gm, Ao, co, D, es, clock, h1, HD, HF, BG, BM, HO⟩ := h
  exact ⟨gm, Ao, co, D, es, clock, h1, HD, HF, blk_below BG hb, blk_below BM hb, Kd.R_below HO hb⟩
theorem below_low {B : Nat} {w w1 : World} (h : Below w.heap.size w w1) (hb : B ≤ w.heap.size) : Below B w w1 :=
  ⟨h.os, h.tape, h.output, h.size, fun k hk => h.block k (Nat.lt_of_lt_of_le hk hb)⟩
theorem PS_list {w : World} {base g : Nat} {L : List S50} (h : PS w base g L) : ∃ (gm : Nat) (Ao : Option Addr) (co : Nat), w.heap[g]? = some (.cells #[.slice Ao L.length co, .map (some gm)] 103 (0, 0)) ∧ Kd.R k50 50 w base (fun k => k ≠ g ∧ k ≠ gm) (.slice Ao L.length co) L := by
  obtain ⟨gm, Ao, co, D, es, clock, h1, HD, HF, BG, BM, HO⟩ := h
  exact ⟨gm, Ao, co, BG, HO⟩
set_option maxHeartbeats 8000000 in
set_option maxRecDepth 100000 in
theorem rows_text.calls (s : ByteArray) (hs : s.size ≤ maxLen) (L : List S50) (base g : Nat) (w : World) (hb : base ≤ w.heap.size) (hL : L.length ≤ 900000000000) (h : PS w base g L) :
    Calls Tryd.prog 86 #[.pointer (some ⟨g, 0, none⟩), .string s] w fun e w' => e = .returned (.int .i64 (putI (eT s) L)) ∧ PS w' base g (putL (eT s) L) ∧ Below base w w' := by
  have hput := Aside0.mk (rows_put.calls (eT s) (okE_T hs) L base g w hb (by omega) h)
  clear h
  go_enter Tryd.func86, Tryd.ntmps86
  go_wp2_with (first | ((with_reducible refine gate_callee (f := 89) rfl ?_); refine goesL_ (some 8) rfl rfl Tryd.func89 (by kernel_rfl) rfl #[.pointer (some ⟨g, 0, none⟩), .agg #[.int .i64 1, .string s, .int .i64 0, .int .i64 0, .int .i64 0, .int .i64 0]] rfl (by (try simp only [List.map_toArray, List.map_cons, List.map_nil]); first | done | rfl) ?_; refine (hput.out).mono ?_; rintro e w1 ⟨rfl, hp, hB⟩; refine ⟨_, rfl, ?_⟩; replace hp := Aside0.mk hp; replace hB := Aside0.mk hB))
  go_ret
  exact ⟨rfl, hp.out, hB.out⟩
set_option maxHeartbeats 8000000 in
set_option maxRecDepth 100000 in
theorem rows_class.calls (s : ByteArray) (hs : s.size ≤ maxLen) (L : List S50) (base g : Nat) (w : World) (hb : base ≤ w.heap.size) (hL : L.length ≤ 900000000000) (h : PS w base g L) :
    Calls Tryd.prog 74 #[.pointer (some ⟨g, 0, none⟩), .string s] w fun e w' => e = .returned (.int .i64 (putI (eC (putI (eT s) L)) (putL (eT s) L))) ∧ PS w' base g (putL (eC (putI (eT s) L)) (putL (eT s) L)) ∧ Below base w w' := by
  have h1 := Aside0.mk (rows_text.calls s hs L base g w hb hL h)
  have hl := putL_len (eT s) L
  have hi := putI_in (eT s) L
  have hput := Aside0.mk (fun (w1 : World) (hb1 : base ≤ w1.heap.size) (h : PS w1 base g (putL (eT s) L)) => rows_put.calls (eC (putI (eT s) L)) (okE_C hi.1 (by omega)) (putL (eT s) L) base g w1 hb1 (by omega) h)
  clear h hl hi
  generalize putI (eT s) L = a at h1 hput ⊢
  go_enter Tryd.func74, Tryd.ntmps74
  go_wp2_with (first | ((with_reducible refine gate_callee (f := 86) rfl ?_); refine goesL_ (some 8) rfl rfl Tryd.func86 (by kernel_rfl) rfl #[.pointer (some ⟨g, 0, none⟩), .string s] rfl (by (try simp only [List.map_toArray, List.map_cons, List.map_nil]); first | done | rfl) ?_; refine (h1.out).mono ?_; rintro e w1 ⟨rfl, hp, hB⟩; refine ⟨_, rfl, ?_⟩; replace hp := Aside0.mk hp; replace hB := Aside0.mk hB; have hb1 := Aside0.mk (Nat.le_trans hb hB.out.size)) | ((with_reducible refine gate_callee (f := 89) rfl ?_); refine goesL_ (some 10) rfl rfl Tryd.func89 (by kernel_rfl) rfl #[.pointer (some ⟨g, 0, none⟩), .agg #[.int .i64 3, .string (⟨#[]⟩ : ByteArray), .int .i64 0, .int .i64 a, .int .i64 0, .int .i64 0]] rfl (by (try simp only [List.map_toArray, List.map_cons, List.map_nil]); first | done | rfl) ?_; refine (hput.out _ hb1.out hp.out).mono ?_; rintro e w2 ⟨rfl, hp2, hB2⟩; refine ⟨_, rfl, ?_⟩; have n0_ := Aside0.mk hp2; have n1_ := Aside0.mk (below_trans hB.out hB2); clear hp hB hp2 hB2; have hp := n0_; have hB := n1_; clear n0_ n1_))
  go_ret
  exact ⟨rfl, hp.out, hB.out⟩
set_option maxHeartbeats 8000000 in
set_option maxRecDepth 100000 in
theorem rows_member.calls (k : Int) (hk : 0 ≤ k ∧ k ≤ 1000) (c n s : ByteArray) (hc : c.size ≤ maxLen) (hn : n.size ≤ maxLen) (hs : s.size ≤ maxLen) (L L1 L2 L3 : List S50) (a b d : Int) (e1 : putL (eC (putI (eT c) L)) (putL (eT c) L) = L1) (e2 : putI (eC (putI (eT c) L)) (putL (eT c) L) = a) (e3 : putL (eT n) L1 = L2) (e4 : putI (eT n) L1 = b) (e5 : putL (eT s) L2 = L3) (e6 : putI (eT s) L2 = d) (base g : Nat) (w : World) (hb : base ≤ w.heap.size) (hL : L.length ≤ 100000000000) (h : PS w base g L) :
    Calls Tryd.prog 76 #[.pointer (some ⟨g, 0, none⟩), .int .i64 k, .string c, .string n, .string s] w fun e w' => e = .returned (.int .i64 (putI (eM k a b d) L3)) ∧ PS w' base g (putL (eM k a b d) L3) ∧ Below base w w' := by
  have h1 := Aside0.mk (rows_class.calls c hc L base g w hb (by omega) h)
  rw [e1, e2] at h1
  have m0 := putL_len (eT c) L
  have m1 := putL_len (eC (putI (eT c) L)) (putL (eT c) L)
  have m2 := putI_in (eC (putI (eT c) L)) (putL (eT c) L)
  rw [e1] at m1
  rw [e2] at m2
  have m3 := putL_len (eT n) L1
  have m4 := putI_in (eT n) L1
  rw [e3] at m3
  rw [e4] at m4
  have m5 := putL_len (eT s) L2
  have m6 := putI_in (eT s) L2
  rw [e5] at m5
  rw [e6] at m6
  have h2 := Aside0.mk (fun (w1 : World) (hb1 : base ≤ w1.heap.size) (h : PS w1 base g L1) => rows_put.calls (eT n) (okE_T hn) L1 base g w1 hb1 (by omega) h)
  have h2 := Aside0.mk (fun (w1 : World) (hb1 : base ≤ w1.heap.size) (h : PS w1 base g L1) => e3 ▸ e4 ▸ rows_text.calls n hn L1 base g w1 hb1 (by omega) h)
  have h3 := Aside0.mk (fun (w1 : World) (hb1 : base ≤ w1.heap.size) (h : PS w1 base g L2) => e5 ▸ e6 ▸ rows_text.calls s hs L2 base g w1 hb1 (by omega) h)
  have h4 := Aside0.mk (fun (w1 : World) (hb1 : base ≤ w1.heap.size) (h : PS w1 base g L3) => rows_put.calls (eM k a b d) (okE_M (by omega) (by omega) (by omega) (by omega)) L3 base g w1 hb1 (by omega) h)
  clear h e1 e2 e3 e4 e5 e6 m0 m1 m2 m3 m4 m5 m6
  go_enter Tryd.func76, Tryd.ntmps76
  go_wp2_with (first | ((with_reducible refine gate_callee (f := 74) rfl ?_); refine goesL_ (some 15) rfl rfl Tryd.func74 (by kernel_rfl) rfl #[.pointer (some ⟨g, 0, none⟩), .string c] rfl (by (try simp only [List.map_toArray, List.map_cons, List.map_nil]); first | done | rfl) ?_; refine (h1.out).mono ?_; rintro e w1 ⟨rfl, hp, hB⟩; refine ⟨_, rfl, ?_⟩; replace hp := Aside0.mk hp; replace hB := Aside0.mk hB; have hb1 := Aside0.mk (Nat.le_trans hb hB.out.size)) | ((with_reducible refine gate_callee (f := 86) rfl ?_); refine goesL_ (some 18) rfl rfl Tryd.func86 (by kernel_rfl) rfl #[.pointer (some ⟨g, 0, none⟩), .string n] rfl (by (try simp only [List.map_toArray, List.map_cons, List.map_nil]); first | done | rfl) ?_; refine (h2.out _ hb1.out hp.out).mono ?_; rintro e w2 ⟨rfl, hp2, hB2⟩; refine ⟨_, rfl, ?_⟩; have n0_ := Aside0.mk hp2; have n1_ := Aside0.mk (below_trans hB.out hB2); clear hp hB hp2 hB2 hb1; have hp := n0_; have hB := n1_; have hb1 := Aside0.mk (Nat.le_trans hb hB.out.size); clear n0_ n1_) | ((with_reducible refine gate_callee (f := 86) rfl ?_); refine goesL_ (some 25) rfl rfl Tryd.func86 (by kernel_rfl) rfl #[.pointer (some ⟨g, 0, none⟩), .string s] rfl (by (try simp only [List.map_toArray, List.map_cons, List.map_nil]); first | done | rfl) ?_; refine (h3.out _ hb1.out hp.out).mono ?_; rintro e w3 ⟨rfl, hp2, hB2⟩; refine ⟨_, rfl, ?_⟩; have n0_ := Aside0.mk hp2; have n1_ := Aside0.mk (below_trans hB.out hB2); clear hp hB hp2 hB2 hb1; have hp := n0_; have hB := n1_; have hb1 := Aside0.mk (Nat.le_trans hb hB.out.size); clear n0_ n1_) | ((with_reducible refine gate_callee (f := 89) rfl ?_); refine goesL_ (some 27) rfl rfl Tryd.func89 (by kernel_rfl) rfl #[.pointer (some ⟨g, 0, none⟩), .agg #[.int .i64 k, .string (⟨#[]⟩ : ByteArray), .int .i64 0, .int .i64 a, .int .i64 b, .int .i64 d]] rfl (by (try simp only [List.map_toArray, List.map_cons, List.map_nil]); first | done | rfl) ?_; refine (h4.out _ hb1.out hp.out).mono ?_; rintro e w4 ⟨rfl, hp2, hB2⟩; refine ⟨_, rfl, ?_⟩; have n0_ := Aside0.mk hp2; have n1_ := Aside0.mk (below_trans hB.out hB2); clear hp hB hp2 hB2; have hp := n0_; have hB := n1_; clear n0_ n1_))
  go_ret
  exact ⟨rfl, hp.out, hB.out⟩
set_option maxHeartbeats 8000000 in
set_option maxRecDepth 100000 in
theorem builder_kept.calls (n i : Int) (L : List S50) (hl : L.length ≤ 4096) (base g : Nat) (w : World) (hb : base ≤ w.heap.size) (h : PS w base g L) :
    Calls Tryd.prog 73 #[.pointer (some ⟨g, 0, none⟩), .int .i64 n, .int .i64 i] w fun e w' => e = .returned (.tuple #[.int .i64 i, .int .i64 0]) ∧ PS w' base g L ∧ Below base w w' := by
  obtain ⟨gm, Ao, co, BG, HO⟩ := PS_list h
  have hcg : w.cell? ⟨g, 0, none⟩ = some (.slice Ao L.length co) := (blk_cell BG 0).trans rfl
  have hfg := blk_frozen BG 0
  have h0 : decide ((4096 : Int) < (L.length : Int)) = false := decide_eq_false (by omega)
  replace h := Aside0.mk h
  clear BG HO
  go_enter Tryd.func73, Tryd.ntmps73
  go_wp2
  go_ret2
  exact ⟨by first | rfl | simp, h.out, Below.refl _ _⟩
theorem desc_Name.below (k : Nat) (a0 : ByteArray) (r : Bool) (w : World) (h : desc_Name.f k a0 = some r) : Calls Tryd.prog 72 #[.string a0] w fun e w' => e = .returned (.bool r) ∧ Below w.heap.size w w' := by
  refine (desc_Name.calls k a0 r w h).mono ?_
  rintro e w' ⟨he, hd⟩
  exact ⟨he, hd.below⟩
set_option maxHeartbeats 8000000 in
set_option maxRecDepth 100000 in
theorem builder_Class.calls (k : Nat) (s : ByteArray) (hs : s.size ≤ maxLen) (hN : desc_Name.f k s = some true) (L L' : List S50) (i : Int) (hL : L.length ≤ 4000) (e1 : putL (eC (putI (eT s) L)) (putL (eT s) L) = L') (e2 : putI (eC (putI (eT s) L)) (putL (eT s) L) = i) (base g : Nat) (w : World) (hb : base ≤ w.heap.size) (h : PS w base g L) :
    Calls Tryd.prog 37 #[.pointer (some ⟨g, 0, none⟩), .string s] w fun e w' => e = .returned (.tuple #[.int .i64 i, .int .i64 0]) ∧ PS w' base g L' ∧ Below base w w' := by
  have h2 := Aside0.mk (fun (w1 : World) (hb1 : base ≤ w1.heap.size) (h : PS w1 base g L) => e1 ▸ e2 ▸ rows_class.calls s hs L base g w1 hb1 (by omega) h)
  have m0 := putL_len (eT s) L
  have m1 := putL_len (eC (putI (eT s) L)) (putL (eT s) L)
  rw [e1] at m1
  have h3 := Aside0.mk (fun (w1 : World) (hb1 : base ≤ w1.heap.size) (h : PS w1 base g L') => builder_kept.calls (L.length : Int) i L' (by omega) base g w1 hb1 h)
  have hp := Aside0.mk h
  have hB := Aside0.mk (Below.refl base w)
  have hb1 := Aside0.mk hb
  replace hN := Aside0.mk hN
  clear h e1 e2 m0 m1
  go_enter Tryd.func37, Tryd.ntmps37
  go_wp2_with (first | ((with_reducible refine gate_callee (f := 72) rfl ?_); refine goesL_ (some 8) rfl rfl Tryd.func72 (by kernel_rfl) rfl #[.string s] rfl (by (try simp only [List.map_toArray, List.map_cons, List.map_nil]); first | done | rfl) ?_; refine (desc_Name.below k s true _ hN.out).mono ?_; rintro e w1 ⟨rfl, hB2⟩; refine ⟨_, rfl, ?_⟩; have n0_ := Aside0.mk (PS_below hp.out hB2); have n1_ := Aside0.mk (below_trans hB.out (below_low hB2 hb1.out)); clear hp hB hB2 hb1; have hp := n0_; have hB := n1_; have hb1 := Aside0.mk (Nat.le_trans hb hB.out.size); clear n0_ n1_; obtain ⟨gm, Ao, co, BG, HO⟩ := PS_list hp.out; have hcg := (blk_cell BG 0).trans (show (#[Value.slice Ao L.length co, Value.map (some gm)] : Array Value)[0]? = some (.slice Ao L.length co) from rfl); have hfg := blk_frozen BG 0; clear BG HO) | ((with_reducible refine gate_callee (f := 74) rfl ?_); refine goesL_ (some 22) rfl rfl Tryd.func74 (by kernel_rfl) rfl #[.pointer (some ⟨g, 0, none⟩), .string s] rfl (by (try simp only [List.map_toArray, List.map_cons, List.map_nil]); first | done | rfl) ?_; refine (h2.out _ hb1.out hp.out).mono ?_; rintro e w2 ⟨rfl, hp2, hB2⟩; refine ⟨_, rfl, ?_⟩; have n0_ := Aside0.mk hp2; have n1_ := Aside0.mk (below_trans hB.out hB2); clear hp hB hp2 hB2 hb1; have hp := n0_; have hB := n1_; have hb1 := Aside0.mk (Nat.le_trans hb hB.out.size); clear n0_ n1_) | ((with_reducible refine gate_callee (f := 73) rfl ?_); refine goesL_ (some 23) rfl rfl Tryd.func73 (by kernel_rfl) rfl #[.pointer (some ⟨g, 0, none⟩), .int .i64 (L.length : Int), .int .i64 i] rfl (by (try simp only [List.map_toArray, List.map_cons, List.map_nil]); first | done | rfl) ?_; refine (h3.out _ hb1.out hp.out).mono ?_; rintro e w3 ⟨rfl, hp2, hB2⟩; refine ⟨_, rfl, ?_⟩; have n0_ := Aside0.mk hp2; have n1_ := Aside0.mk (below_trans hB.out hB2); clear hp hB hp2 hB2 hb1; have hp := n0_; have hB := n1_; have hb1 := Aside0.mk (Nat.le_trans hb hB.out.size); clear n0_ n1_))
  go_ret2
  exact ⟨by first | rfl | simp, hp.out, hB.out⟩
set_option maxHeartbeats 8000000 in
set_option maxRecDepth 100000 in
theorem builder_Field.calls (k : Nat) (c n : ByteArray) (td : Int) (tn s : ByteArray) (hc : c.size ≤ maxLen) (hn : n.size ≤ maxLen) (hs : s.size ≤ maxLen) (hN : desc_Name.f k c = some true) (hM : desc_Name.f k n = some true) (hT : desc_TypeText.f k td tn = some (s, 0))
    (L L1 L2 L3 L4 : List S50) (a b d i : Int) (hL : L.length ≤ 4000) (e1 : putL (eC (putI (eT c) L)) (putL (eT c) L) = L1) (e2 : putI (eC (putI (eT c) L)) (putL (eT c) L) = a) (e3 : putL (eT n) L1 = L2) (e4 : putI (eT n) L1 = b) (e5 : putL (eT s) L2 = L3) (e6 : putI (eT s) L2 = d) (e7 : putL (eM 5 a b d) L3 = L4) (e8 : putI (eM 5 a b d) L3 = i) (base g : Nat) (w : World) (hb : base ≤ w.heap.size) (h : PS w base g L) :
    Calls Tryd.prog 38 #[.pointer (some ⟨g, 0, none⟩), .string c, .string n, .agg #[.int .i64 td, .string tn]] w fun e w' => e = .returned (.tuple #[.int .i64 i, .int .i64 0]) ∧ PS w' base g L4 ∧ Below base w w' := by
  have h2 := Aside0.mk (fun (w1 : World) (hb1 : base ≤ w1.heap.size) (h : PS w1 base g L) => e7 ▸ e8 ▸ rows_member.calls 5 (by omega) c n s hc hn hs L L1 L2 L3 a b d e1 e2 e3 e4 e5 e6 base g w1 hb1 (by omega) h)
  have m0 := putL_len (eT c) L
  have m1 := putL_len (eC (putI (eT c) L)) (putL (eT c) L)
  have m2 := putL_len (eT n) L1
  have m3 := putL_len (eT s) L2
  have m4 := putL_len (eM 5 a b d) L3
  rw [e1] at m1
  rw [e3] at m2
  rw [e5] at m3
  rw [e7] at m4
  have h3 := Aside0.mk (fun (w1 : World) (hb1 : base ≤ w1.heap.size) (h : PS w1 base g L4) => builder_kept.calls (L.length : Int) i L4 (by omega) base g w1 hb1 h)
  have hp := Aside0.mk h
  have hB := Aside0.mk (Below.refl base w)
  have hb1 := Aside0.mk hb
  replace hN := Aside0.mk hN
  replace hM := Aside0.mk hM
  replace hT := Aside0.mk hT
  clear h e1 e2 e3 e4 e5 e6 e7 e8 m0 m1 m2 m3 m4
  go_enter Tryd.func38, Tryd.ntmps38
  go_wp2_with (first | ((with_reducible refine gate_dst (N := 7) rfl ?_); refine box_event ?hg (N := 7) ?hd (cs := #[.int .i64 td, .string tn]) (t := 34) ?hr ?_; (case hd => rfl); (case hg => rfl); (case hr => first | (go_simp; done) | (go_simp; rfl)); intro gx hg w2 hbox hB2; have n0_ := Aside0.mk (PS_below hp.out hB2); have n1_ := Aside0.mk (below_trans hB.out (below_low hB2 hb1.out)); clear hp hB hb1; have hp := n0_; have hB := n1_; have hb1 := Aside0.mk (Nat.le_trans hb hB.out.size); clear n0_ n1_; replace hbox := Aside0.mk hbox; clear hg) | ((with_reducible refine gate_callee (f := 72) rfl ?_); (try (refine gate_guard (by rfl) ?_; dsimp only)); refine goesL_ (some 14) rfl rfl Tryd.func72 (by kernel_rfl) rfl #[.string c] rfl (by (try simp only [List.map_toArray, List.map_cons, List.map_nil]); first | done | rfl) ?_; refine (desc_Name.below k c true _ hN.out).mono ?_; rintro e w1 ⟨rfl, hB2⟩; refine ⟨_, rfl, ?_⟩; have nb_ := Aside0.mk (blk_below hbox.out hB2); have n0_ := Aside0.mk (PS_below hp.out hB2); have n1_ := Aside0.mk (below_trans hB.out (below_low hB2 hb1.out)); clear hp hB hb1 hbox hB2; have hbox := nb_; clear nb_; have hp := n0_; have hB := n1_; have hb1 := Aside0.mk (Nat.le_trans hb hB.out.size); clear n0_ n1_) | ((with_reducible refine gate_callee (f := 72) rfl ?_); (try (refine gate_guard (by rfl) ?_; dsimp only)); refine goesL_ (some 18) rfl rfl Tryd.func72 (by kernel_rfl) rfl #[.string n] rfl (by (try simp only [List.map_toArray, List.map_cons, List.map_nil]); first | done | rfl) ?_; refine (desc_Name.below k n true _ hM.out).mono ?_; rintro e w1 ⟨rfl, hB2⟩; refine ⟨_, rfl, ?_⟩; have nb_ := Aside0.mk (blk_below hbox.out hB2); have n0_ := Aside0.mk (PS_below hp.out hB2); have n1_ := Aside0.mk (below_trans hB.out (below_low hB2 hb1.out)); clear hp hB hb1 hbox hB2; have hbox := nb_; clear nb_; have hp := n0_; have hB := n1_; have hb1 := Aside0.mk (Nat.le_trans hb hB.out.size); clear n0_ n1_; have hct0 : World.cell? _ ⟨gx, 0, none⟩ = some (.int .i64 td) := (blk_cell hbox.out 0).trans rfl; have hct1 : World.cell? _ ⟨gx, 1, none⟩ = some (.string tn) := (blk_cell hbox.out 1).trans rfl) | ((with_reducible refine gate_callee (f := 75) rfl ?_); (try (refine gate_guard (by rfl) ?_; dsimp only)); refine goesL_ (some 23) rfl rfl Tryd.func75 (by kernel_rfl) rfl #[.agg #[.int .i64 td, .string tn]] rfl (by (try simp only [List.map_toArray, List.map_cons, List.map_nil]); first | done | rfl) ?_; refine (desc_TypeText.calls k td tn s 0 _ hT.out).mono ?_; rintro e w1 ⟨rfl, hB2⟩; refine ⟨_, rfl, ?_⟩; have n0_ := Aside0.mk (PS_below hp.out hB2); have n1_ := Aside0.mk (below_trans hB.out (below_low hB2 hb1.out)); clear hp hB hB2 hb1; have hp := n0_; have hB := n1_; have hb1 := Aside0.mk (Nat.le_trans hb hB.out.size); clear n0_ n1_; obtain ⟨gm, Ao, co, BG, HO⟩ := PS_list hp.out; have hcg := (blk_cell BG 0).trans (show (#[Value.slice Ao L.length co, Value.map (some gm)] : Array Value)[0]? = some (.slice Ao L.length co) from rfl); have hfg := blk_frozen BG 0; clear BG HO) | ((with_reducible refine gate_callee (f := 76) rfl ?_); (try (refine gate_guard (by rfl) ?_; dsimp only)); refine goesL_ (some 43) rfl rfl Tryd.func76 (by kernel_rfl) rfl #[.pointer (some ⟨g, 0, none⟩), .int .i64 5, .string c, .string n, .string s] rfl (by (try simp only [List.map_toArray, List.map_cons, List.map_nil]); first | done | rfl) ?_; refine (h2.out _ hb1.out hp.out).mono ?_; rintro e w2 ⟨rfl, hp2, hB2⟩; refine ⟨_, rfl, ?_⟩; have n0_ := Aside0.mk hp2; have n1_ := Aside0.mk (below_trans hB.out hB2); clear hp hB hp2 hB2 hb1; have hp := n0_; have hB := n1_; have hb1 := Aside0.mk (Nat.le_trans hb hB.out.size); clear n0_ n1_) | ((with_reducible refine gate_callee (f := 73) rfl ?_); (try (refine gate_guard (by rfl) ?_; dsimp only)); refine goesL_ (some 44) rfl rfl Tryd.func73 (by kernel_rfl) rfl #[.pointer (some ⟨g, 0, none⟩), .int .i64 (L.length : Int), .int .i64 i] rfl (by (try simp only [List.map_toArray, List.map_cons, List.map_nil]); first | done | rfl) ?_; refine (h3.out _ hb1.out hp.out).mono ?_; rintro e w3 ⟨rfl, hp2, hB2⟩; refine ⟨_, rfl, ?_⟩; have n0_ := Aside0.mk hp2; have n1_ := Aside0.mk (below_trans hB.out hB2); clear hp hB hp2 hB2 hb1; have hp := n0_; have hB := n1_; have hb1 := Aside0.mk (Nat.le_trans hb hB.out.size); clear n0_ n1_))
  go_ret2
  exact ⟨by first | rfl | simp, hp.out, hB.out⟩
theorem CLONE_EQL50 (w : World) (A : Option Addr) (n c : Nat) : (binOp .eql 22 (.slice A n c) (.slice none 0 0)).run Tryd.prog w = .ok (.bool A.isNone) w := Go.run_eql_slice_nil w 22 50 A n c Tryd.underlying22
theorem CLONE_NIL50 {w : World} {l0 : List (S50)} (h : Kd.C k50 w none l0.length l0) : l0 = [] := by
  cases l0 with
  | nil => rfl
  | cons a l => simp [Kd.C, ReadsRow] at h
set_option maxHeartbeats 8000000 in
set_option maxRecDepth 100000 in
theorem ent_clone.calls (A : Option Addr) (c : Nat) (L : List S50) (hL : L.length ≤ 1000000000000) (w : World) (HC : Kd.C k50 w A L.length L) :
    Calls Tryd.prog 60 #[.slice A L.length c] w fun e w' => ∃ v : Value, e = .returned v ∧ Kd.R k50 50 w' w.heap.size (fun _ => True) v L ∧ Below w.heap.size w w' := by
  have hnil := fun (w : World) (A : Option Addr) (n c : Nat) => CLONE_EQL50 w A n c
  cases A with
  | none =>
    have hl0 : L = [] := CLONE_NIL50 HC
    subst hl0
    go_enter Tryd.func60, Tryd.ntmps60
    go_wp2
    go_ret
    exact ⟨_, rfl, Kd.R_nil _ _ _ _ _, Below.refl _ _⟩
  | some A =>
    replace HC := Aside0.mk HC
    go_enter Tryd.func60, Tryd.ntmps60
    go_wp2_with (first | ((with_reducible refine gate_dst (N := 5) rfl ?_); refine Kd.R_lit k50 _ 50 ?hg (N := 5) ?hd (xs := ([] : List (S50))) (inner := []) (ok := fun _ => True) (okp := fun _ => True) ?hr ?hp (fun _ hk => hk) trivial (Below.refl _ _) (Nat.le_refl _) (by simp) ?_; (case hd => rfl); (case hg => rfl); (case hr => first | (go_simp; done) | (go_simp; rfl)); (case hp => exact (Reps.none _ _)); intro v5 w5 ho hb hg_ hnew_; clear hg_ hnew_; have HO := Aside0.mk ho; have HB := Aside0.mk hb; clear ho hb) | ((with_reducible refine gate_builtin (b := .append) (xs := #[.tmp 5, .tmp 6]) rfl ?_); at_builtin; refine Kd.R_append_rows k50 (w0 := w) w.heap.size rfl (.tmp 5) (.tmp 6) 22 50 (.agg #[(.int .i64 0), (.string ⟨#[]⟩), (.int .i64 0), (.int .i64 0), (.int .i64 0), (.int .i64 0)]) 56 rfl Tryd.underlying22 info50 rfl (by decide) (by omega) v5 [] L _ _ _ (fun _ => True) (fun _ => False) rfl rfl ?aO ?aR (fun _ _ h => h) (fun _ h => h.elim) ?aF ?aB ?aS ?aL ?_; (case aR => exact Kd.C_below HC.out HB.out); (case aB => exact HB.out); (case aF => exact (fun _ _ => trivial)); (case aO => exact HO.out); (case aS => exact HB.out.size); (case aL => simp only [List.length_nil]; omega); intro v6 w6 ho hb hg hat; rw [List.nil_append] at ho; have n0_ := Aside0.mk hb; have n1_ := Aside0.mk ho; clear HB HO; have HB := n0_; have HO := n1_; clear n0_ n1_ ho hb hg hat))
    go_ret
    exact ⟨_, rfl, HO.out, HB.out⟩
set_option maxHeartbeats 8000000 in
set_option maxRecDepth 100000 in
theorem builder_Pool.calls (L : List S50) (hL : L.length ≤ 1000000000000) (base g : Nat) (w : World) (h : PS w base g L) :
    Calls Tryd.prog 29 #[.pointer (some ⟨g, 0, none⟩)] w fun e w' => ∃ v : Value, e = .returned v ∧ Kd.R k50 50 w' w.heap.size (fun _ => True) v L ∧ Below w.heap.size w w' := by
  obtain ⟨gm, Ao, co, BG, HO⟩ := PS_list h
  have hcg := (blk_cell BG 0).trans (show (#[Value.slice Ao L.length co, Value.map (some gm)] : Array Value)[0]? = some (.slice Ao L.length co) from rfl)
  have hfg := blk_frozen BG 0
  have hcl := Aside0.mk (ent_clone.calls Ao co L hL w (Kd.R_reads' HO).2.2)
  clear BG HO h
  go_enter Tryd.func29, Tryd.ntmps29
  go_wp2_with (first | ((with_reducible refine gate_callee (f := 60) rfl ?_); refine goesL_ (some 8) rfl rfl Tryd.func60 (by kernel_rfl) rfl #[.slice Ao L.length co] rfl (by (try simp only [List.map_toArray, List.map_cons, List.map_nil]); first | done | rfl) ?_; refine (hcl.out).mono ?_; rintro e w1 ⟨v, rfl, ho, hB⟩; refine ⟨_, rfl, ?_⟩; replace ho := Aside0.mk ho; replace hB := Aside0.mk hB))
  go_ret
  exact ⟨_, rfl, ho.out, hB.out⟩
set_option maxHeartbeats 8000000 in
set_option maxRecDepth 100000 in
theorem pool_New.nil (w : World) :
    Calls Tryd.prog 26 #[.slice none 0 0] w fun e w' => ∃ g : Nat, e = .returned (.pointer (some ⟨g, 0, none⟩)) ∧ PS w' w.heap.size g [] ∧ Below w.heap.size w w' := by
  have hmm := @run_makeMap Tryd.prog
  have hck := Aside0.mk (show pool_Check.f 3 [] = some (0, 0) by rfl)
  have HB := Aside0.mk (Below.refl w.heap.size w)
  go_enter Tryd.func26, Tryd.ntmps26
  go_wp2_with (first | ((with_reducible refine gate_dst (N := 13) rfl ?_); refine box_event ?hg (N := 13) ?hd (cs := #[.slice none 0 0, .map (some w.heap.size)]) (t := 103) ?hr ?_; (case hd => rfl); (case hg => rfl); (case hr => first | (go_simp; done) | (go_simp; rfl)); intro g hg w2 hbox hB2; have BG := Aside0.mk hbox; have BM := Aside0.mk (blk_below (blk_new w (.map #[] 0)) hB2); have n0_ := Aside0.mk (below_step (below_alloc HB.out (.map #[] 0)) hB2); have GG := Aside0.mk (show w.heap.size < g by rw [hg]; simp); clear HB; have HB := n0_; clear n0_ hbox hB2 hg) | ((with_reducible refine gate_callee (f := 15) rfl ?_); refine goesL_ (some 16) rfl rfl Tryd.func15 (by kernel_rfl) rfl #[.slice none 0 0] rfl (by (try simp only [List.map_toArray, List.map_cons, List.map_nil]); first | done | rfl) ?_; refine (pool_Check.calls 3 none 0 [] 0 0 _ (Kd.C_nil _ _) (Nat.le_refl _) hck.out).mono ?_; rintro e w3 ⟨rfl, hB2⟩; refine ⟨_, rfl, ?_⟩; have n0_ := Aside0.mk (below_step HB.out hB2); have n1_ := Aside0.mk (blk_below BG.out hB2); have n2_ := Aside0.mk (blk_below BM.out hB2); clear HB BG BM hB2; have HB := n0_; have BG := n1_; have BM := n2_; clear n0_ n1_ n2_))
  go_loopg [24] 0 (fun kq v24 w' => v24 = .int .i64 0 ∧ Aside0 (w'.heap[g]? = some (.cells #[.slice none 0 0, .map (some w.heap.size)] 103 (0, 0))) ∧ Aside0 (w'.heap[w.heap.size]? = some (.map #[] 0)) ∧ Aside0 (Below w.heap.size w w'))
  case atStart => exact ⟨rfl, BG, BM, HB⟩
  case round =>
    clear BG BM HB
    obtain ⟨rfl, BG, BM, HB⟩ := hrel
    go_wp2
    go_ret
    refine ⟨g, rfl, ⟨w.heap.size, none, 0, .map [], #[], 0, ⟨Nat.le_of_lt GG.out, Nat.le_refl _, Nat.ne_of_lt GG.out⟩, fstD_nil, fun W h => ⟨#[], 0, h, ⟨by simp, stamped_empty 0, by simp⟩, Nat.le_refl _, rfl⟩, BG.out, BM.out, Kd.R_nil _ _ _ _ _⟩, HB.out⟩
def keystonelaw3_known.f : Option (Bool) := some true
abbrev kA : S50 := eT ⟨#[65]⟩
abbrev kX : S50 := eT ⟨#[120]⟩
abbrev kI : S50 := eT ⟨#[73]⟩
theorem known_1 : putL (eC (putI kA [])) (putL kA []) = [kA, eC 0] ∧ putI (eC (putI kA [])) (putL kA []) = 1 := by
  simp [putL, putI, fstI, eT, eC, eqE, List.findIdx?_cons]
theorem known_2 : putL (eC (putI kA [kA, eC 0])) (putL kA [kA, eC 0]) = [kA, eC 0] ∧ putI (eC (putI kA [kA, eC 0])) (putL kA [kA, eC 0]) = 1 := by
  simp [putL, putI, fstI, eT, eC, eqE, List.findIdx?_cons]
theorem known_3 : putL kX [kA, eC 0] = [kA, eC 0, kX] ∧ putI kX [kA, eC 0] = 2 := by
  simp [putL, putI, fstI, eT, eC, eqE, List.findIdx?_cons, ByteArray.toList_eq]
theorem known_4 : putL kI [kA, eC 0, kX] = [kA, eC 0, kX, kI] ∧ putI kI [kA, eC 0, kX] = 3 := by
  simp [putL, putI, fstI, eT, eC, eqE, List.findIdx?_cons, ByteArray.toList_eq]
theorem known_5 : putL (eM 5 1 2 3) [kA, eC 0, kX, kI] = [kA, eC 0, kX, kI, eM 5 1 2 3] ∧ putI (eM 5 1 2 3) [kA, eC 0, kX, kI] = 4 := by
  simp [putL, putI, fstI, eT, eC, eM, eqE, List.findIdx?_cons]
theorem known_A : desc_Name.f 9 ⟨#[65]⟩ = some true := by kernel_rfl
theorem known_X : desc_Name.f 9 ⟨#[120]⟩ = some true := by kernel_rfl
theorem known_T : desc_TypeText.f 9 0 ⟨#[]⟩ = some (⟨#[73]⟩, 0) := by kernel_rfl
theorem b1_len : ∀ b : UInt8, (⟨#[b]⟩ : ByteArray).size ≤ maxLen := fun b => by show 1 ≤ maxLen; unfold maxLen; omega
set_option maxHeartbeats 8000000 in
set_option maxRecDepth 100000 in
theorem keystonelaw3_known.calls (r : Bool) (w : World) (h : keystonelaw3_known.f = some r) :
    Calls Tryd.prog 14 #[] w fun e w' => e = .returned (.bool r) ∧ Below w.heap.size w w' := by
  obtain rfl := Option.some.inj h
  clear h
  have HB := Aside0.mk (Below.refl w.heap.size w)
  go_enter Tryd.func14, Tryd.ntmps14
  go_wp2_with (first | ((with_reducible refine gate_callee (f := 26) rfl ?_); (try (refine gate_guard (by rfl) ?_; dsimp only)); refine goesL_ (some 6) rfl rfl Tryd.func26 (by kernel_rfl) rfl #[.slice none 0 0] rfl (by (try simp only [List.map_toArray, List.map_cons, List.map_nil]); first | done | rfl) ?_; refine (pool_New.nil w).mono ?_; rintro e w1 ⟨g, rfl, hp, hB⟩; refine ⟨_, rfl, ?_⟩; replace hp := Aside0.mk hp; clear HB; have HB := Aside0.mk hB; have hb1 := Aside0.mk hB.size; clear hB) | ((with_reducible refine gate_callee (f := 37) rfl ?_); (try (refine gate_guard (by rfl) ?_; dsimp only)); refine goesL_ (some 11) rfl rfl Tryd.func37 (by kernel_rfl) rfl #[.pointer (some ⟨g, 0, none⟩), .string (⟨#[65]⟩ : ByteArray)] rfl (by (try simp only [List.map_toArray, List.map_cons, List.map_nil]); first | done | rfl) ?_; refine (builder_Class.calls 9 (⟨#[65]⟩ : ByteArray) (b1_len _) known_A [] [kA, eC 0] 1 (by simp) known_1.1 known_1.2 _ g _ hb1.out hp.out).mono ?_; rintro e w2 ⟨rfl, hp2, hB2⟩; refine ⟨_, rfl, ?_⟩; have n0_ := Aside0.mk (below_trans HB.out hB2); clear HB hp hB2 hb1; have HB := n0_; have hp := Aside0.mk hp2; have hb1 := Aside0.mk HB.out.size; clear n0_ hp2) | ((with_reducible refine gate_callee (f := 38) rfl ?_); (try (refine gate_guard (by rfl) ?_; dsimp only)); refine goesL_ (some 17) rfl rfl Tryd.func38 (by kernel_rfl) rfl #[.pointer (some ⟨g, 0, none⟩), .string (⟨#[65]⟩ : ByteArray), .string (⟨#[120]⟩ : ByteArray), .agg #[.int .i64 0, .string (⟨#[]⟩ : ByteArray)]] rfl (by (try simp only [List.map_toArray, List.map_cons, List.map_nil]); first | done | rfl) ?_; refine (builder_Field.calls 9 (⟨#[65]⟩ : ByteArray) (⟨#[120]⟩ : ByteArray) 0 ⟨#[]⟩ (⟨#[73]⟩ : ByteArray) (b1_len _) (b1_len _) (b1_len _) known_A known_X known_T [kA, eC 0] [kA, eC 0] [kA, eC 0, kX] [kA, eC 0, kX, kI] [kA, eC 0, kX, kI, eM 5 1 2 3] 1 2 3 4 (by simp) known_2.1 known_2.2 known_3.1 known_3.2 known_4.1 known_4.2 known_5.1 known_5.2 _ g _ hb1.out hp.out).mono ?_; rintro e w3 ⟨rfl, hp2, hB2⟩; refine ⟨_, rfl, ?_⟩; have n0_ := Aside0.mk (below_trans HB.out hB2); clear HB hp hB2 hb1; have HB := n0_; have hp := Aside0.mk hp2; have hb1 := Aside0.mk HB.out.size; clear n0_ hp2) | ((with_reducible refine gate_callee (f := 29) rfl ?_); (try (refine gate_guard (by rfl) ?_; dsimp only)); refine goesL_ (some 36) rfl rfl Tryd.func29 (by kernel_rfl) rfl #[.pointer (some ⟨g, 0, none⟩)] rfl (by (try simp only [List.map_toArray, List.map_cons, List.map_nil]); first | done | rfl) ?_; refine (builder_Pool.calls [kA, eC 0, kX, kI, eM 5 1 2 3] (by simp) _ g _ hp.out).mono ?_; rintro e w4 ⟨v, rfl, ho, hB2⟩; refine ⟨_, rfl, ?_⟩; obtain ⟨Av, cv, ev⟩ := Kd.R_slice ho; subst ev; clear ho; have n0_ := Aside0.mk (below_step HB.out hB2); clear HB hp hB2 hb1; have HB := n0_; clear n0_))
  go_ret
  exact ⟨by first | rfl | simp, HB.out⟩
end Go.Proofs.YtldejfkplnejjaaDoor.P
