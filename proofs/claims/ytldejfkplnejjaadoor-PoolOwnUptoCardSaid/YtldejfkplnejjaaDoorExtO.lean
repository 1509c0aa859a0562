/- PoolOwn, walked. -/
import Derived.Test.YtldejfkplnejjaaDoorExtA
namespace Go.Proofs.YtldejfkplnejjaaDoor.P
open Go.Maps Go.WideMaps Go.MapKept
open Go.RowKit Go.Proofs.YtldejfkplnejjaaDoorW.PrintWords Go.Proofs.YtldejfkplnejjaaDoorW.PrintLast Go.Proofs.YtldejfkplnejjaaDoorW.PrintMore
set_option linter.unusedVariables false
set_option linter.unusedSimpArgs false
def wellO (a0 : List S50) (x y : S57) : Prop := a0.length ≤ 1000 → x.f5.f0.length ≤ 100 → y.f5.f0.length ≤ 100 → (∀ z ∈ a0, okE z) ∧ (∃ k r e, pool_Check.f k a0 = some (r, e)) ∧ (∃ k v, CallOk k x v) ∧ (∃ k v, CallOk k y v) ∧ ∀ L : List S50, L.length ≤ 4096 → ∃ k, keystonelaw3_Same.f k L L = some true
open Classical in
noncomputable def keystonelaw3_PoolOwn.f (a0 : List S50) (kd n : Int) (c s : ByteArray) (td : Int) (tn : ByteArray) (ps : List S34) (bo : Bool) (rd : Int) (rn : ByteArray) (kd' n' : Int) (c' s' : ByteArray) (td' : Int) (tn' : ByteArray) (ps' : List S34) (bo' : Bool) (rd' : Int) (rn' : ByteArray) : Option Bool := if wellO a0 ⟨kd, n, c, s, ⟨td, tn⟩, ⟨ps, bo, ⟨rd, rn⟩⟩⟩ ⟨kd', n', c', s', ⟨td', tn'⟩, ⟨ps', bo', ⟨rd', rn'⟩⟩⟩ then some true else none
set_option maxHeartbeats 8000000 in
set_option maxRecDepth 100000 in
theorem keystonelaw3_PoolOwn.calls (A0 : Option Addr) (c0 : Nat) (l0 : List (S50)) (kd n : Int) (c s : ByteArray) (td : Int) (tn : ByteArray) (A : Option Addr) (ca : Nat) (ps : List (S34)) (bo : Bool) (rd : Int) (rn : ByteArray) (kd' n' : Int) (c' s' : ByteArray) (td' : Int) (tn' : ByteArray) (A' : Option Addr) (ca' : Nat) (ps' : List (S34)) (bo' : Bool) (rd' : Int) (rn' : ByteArray) (r : Bool) (w : World) (hr0 : Kd.C k50 w A0 l0.length l0) (hc0 : l0.length ≤ c0) (hr1 : Kd.C k34 w A ps.length ps) (hc1 : ps.length ≤ ca) (hr2 : Kd.C k34 w A' ps'.length ps') (hc2 : ps'.length ≤ ca') (h : keystonelaw3_PoolOwn.f l0 kd n c s td tn ps bo rd rn kd' n' c' s' td' tn' ps' bo' rd' rn' = some r) :
    Calls Tryd.prog 9 #[.slice A0 l0.length c0, .agg #[.int .i64 kd, .int .i64 n, .string c, .string s, .int .i64 td, .string tn, .slice A ps.length ca, .bool bo, .int .i64 rd, .string rn], .agg #[.int .i64 kd', .int .i64 n', .string c', .string s', .int .i64 td', .string tn', .slice A' ps'.length ca', .bool bo', .int .i64 rd', .string rn']] w fun e w' => e = .returned (.bool r) ∧ Below w.heap.size w w' := by
  have hw : wellO l0 ⟨kd, n, c, s, ⟨td, tn⟩, ⟨ps, bo, ⟨rd, rn⟩⟩⟩ ⟨kd', n', c', s', ⟨td', tn'⟩, ⟨ps', bo', ⟨rd', rn'⟩⟩⟩ ∧ true = r := by
    unfold keystonelaw3_PoolOwn.f at h
    split at h
    · rename_i hw
      exact ⟨hw, Option.some.inj h⟩
    · cases h
  obtain ⟨hw, rfl⟩ := hw
  clear h
  by_cases g1 : 1000 < l0.length
  · -- too many entries
    have b0 : decide ((1000 : Int) < (l0.length : Int)) = true := decide_eq_true (by omega)
    have b1 : decide (1000 < l0.length) = true := decide_eq_true (by omega)
    clear hr0 hr1 hr2 hw
    go_enter Tryd.func9, Tryd.ntmps9
    go_wp2_with (first | ((with_reducible refine d_ 4 ?_); refine X_ 4 #[.int .i64 kd, .int .i64 n, .string c, .string s, .int .i64 td, .string tn, .slice A ps.length ca, .bool bo, .int .i64 rd, .string rn] 57 ?_; intro gx hg w1 hbox hb; have BX := Aside0.mk hbox; have HB := Aside0.mk hb; clear hbox hb hg) | ((with_reducible refine d_ 5 ?_); refine X_ 5 #[.int .i64 kd', .int .i64 n', .string c', .string s', .int .i64 td', .string tn', .slice A' ps'.length ca', .bool bo', .int .i64 rd', .string rn'] 57 ?_; intro gy hg w2 hbox hb; have BY := Aside0.mk hbox; have n0_ := Aside0.mk (blk_below BX.out hb); have n1_ := Aside0.mk (below_then HB.out HB.out.size hb); clear BX HB hbox hb hg; have BX := n0_; have HB := n1_; clear n0_ n1_) | ((with_reducible refine gt_ 14 ?_); (try (refine gate_guard (by rfl) ?_; dsimp only)); refine gc_ 15 Tryd.func14 #[] ?_; refine (known.frame _).mono ?_; rintro e1 w3 ⟨rfl, hb⟩; refine ⟨_, rfl, ?_⟩; have n0_ := Aside0.mk (blk_below BX.out hb); have n1_ := Aside0.mk (below_then HB.out HB.out.size hb); have n2_ := Aside0.mk (blk_below BY.out hb); clear BX BY HB hb; have BX := n0_; have HB := n1_; have BY := n2_; clear n0_ n1_ n2_; have y6 := (c10_ BX.out).2.2.2.2.2.2.1; have y7 := (c10_ BY.out).2.2.2.2.2.2.1))
    go_ret
    exact ⟨by first | rfl | simp, HB.out⟩
  by_cases g2 : 100 < ps.length
  · -- too many parameters
    have b0 : decide ((1000 : Int) < (l0.length : Int)) = false := decide_eq_false (by omega)
    have b1 : decide (1000 < l0.length) = false := decide_eq_false (by omega)
    have b2 : decide ((100 : Int) < (ps.length : Int)) = true := decide_eq_true (by omega)
    have b3 : decide (100 < ps.length) = true := decide_eq_true (by omega)
    clear hr0 hr1 hr2 hw
    go_enter Tryd.func9, Tryd.ntmps9
    go_wp2_with (first | ((with_reducible refine d_ 4 ?_); refine X_ 4 #[.int .i64 kd, .int .i64 n, .string c, .string s, .int .i64 td, .string tn, .slice A ps.length ca, .bool bo, .int .i64 rd, .string rn] 57 ?_; intro gx hg w1 hbox hb; have BX := Aside0.mk hbox; have HB := Aside0.mk hb; clear hbox hb hg) | ((with_reducible refine d_ 5 ?_); refine X_ 5 #[.int .i64 kd', .int .i64 n', .string c', .string s', .int .i64 td', .string tn', .slice A' ps'.length ca', .bool bo', .int .i64 rd', .string rn'] 57 ?_; intro gy hg w2 hbox hb; have BY := Aside0.mk hbox; have n0_ := Aside0.mk (blk_below BX.out hb); have n1_ := Aside0.mk (below_then HB.out HB.out.size hb); clear BX HB hbox hb hg; have BX := n0_; have HB := n1_; clear n0_ n1_) | ((with_reducible refine gt_ 14 ?_); (try (refine gate_guard (by rfl) ?_; dsimp only)); refine gc_ 15 Tryd.func14 #[] ?_; refine (known.frame _).mono ?_; rintro e1 w3 ⟨rfl, hb⟩; refine ⟨_, rfl, ?_⟩; have n0_ := Aside0.mk (blk_below BX.out hb); have n1_ := Aside0.mk (below_then HB.out HB.out.size hb); have n2_ := Aside0.mk (blk_below BY.out hb); clear BX BY HB hb; have BX := n0_; have HB := n1_; have BY := n2_; clear n0_ n1_ n2_; have y6 := (c10_ BX.out).2.2.2.2.2.2.1; have y7 := (c10_ BY.out).2.2.2.2.2.2.1))
    go_ret
    exact ⟨by first | rfl | simp, HB.out⟩
  by_cases g3 : 100 < ps'.length
  · -- too many of the other's
    have b0 : decide ((1000 : Int) < (l0.length : Int)) = false := decide_eq_false (by omega)
    have b1 : decide (1000 < l0.length) = false := decide_eq_false (by omega)
    have b2 : decide ((100 : Int) < (ps.length : Int)) = false := decide_eq_false (by omega)
    have b3 : decide (100 < ps.length) = false := decide_eq_false (by omega)
    have b4 : decide ((100 : Int) < (ps'.length : Int)) = true := decide_eq_true (by omega)
    have b5 : decide (100 < ps'.length) = true := decide_eq_true (by omega)
    clear hr0 hr1 hr2 hw
    go_enter Tryd.func9, Tryd.ntmps9
    go_wp2_with (first | ((with_reducible refine d_ 4 ?_); refine X_ 4 #[.int .i64 kd, .int .i64 n, .string c, .string s, .int .i64 td, .string tn, .slice A ps.length ca, .bool bo, .int .i64 rd, .string rn] 57 ?_; intro gx hg w1 hbox hb; have BX := Aside0.mk hbox; have HB := Aside0.mk hb; clear hbox hb hg) | ((with_reducible refine d_ 5 ?_); refine X_ 5 #[.int .i64 kd', .int .i64 n', .string c', .string s', .int .i64 td', .string tn', .slice A' ps'.length ca', .bool bo', .int .i64 rd', .string rn'] 57 ?_; intro gy hg w2 hbox hb; have BY := Aside0.mk hbox; have n0_ := Aside0.mk (blk_below BX.out hb); have n1_ := Aside0.mk (below_then HB.out HB.out.size hb); clear BX HB hbox hb hg; have BX := n0_; have HB := n1_; clear n0_ n1_) | ((with_reducible refine gt_ 14 ?_); (try (refine gate_guard (by rfl) ?_; dsimp only)); refine gc_ 15 Tryd.func14 #[] ?_; refine (known.frame _).mono ?_; rintro e1 w3 ⟨rfl, hb⟩; refine ⟨_, rfl, ?_⟩; have n0_ := Aside0.mk (blk_below BX.out hb); have n1_ := Aside0.mk (below_then HB.out HB.out.size hb); have n2_ := Aside0.mk (blk_below BY.out hb); clear BX BY HB hb; have BX := n0_; have HB := n1_; have BY := n2_; clear n0_ n1_ n2_; have y6 := (c10_ BX.out).2.2.2.2.2.2.1; have y7 := (c10_ BY.out).2.2.2.2.2.2.1))
    go_ret
    exact ⟨by first | rfl | simp, HB.out⟩
  have b0 : decide ((1000 : Int) < (l0.length : Int)) = false := decide_eq_false (by omega)
  have b1 : decide (1000 < l0.length) = false := decide_eq_false (by omega)
  have b2 : decide ((100 : Int) < (ps.length : Int)) = false := decide_eq_false (by omega)
  have b3 : decide (100 < ps.length) = false := decide_eq_false (by omega)
  have b4 : decide ((100 : Int) < (ps'.length : Int)) = false := decide_eq_false (by omega)
  have b5 : decide (100 < ps'.length) = false := decide_eq_false (by omega)
  obtain ⟨hok, ⟨k1, r1, e0, hK⟩, ⟨k2, v1, ok1⟩, ⟨k3, v2, ok2⟩, hsame⟩ := hw (by omega) (by show ps.length ≤ 100; omega) (by show ps'.length ≤ 100; omega)
  obtain ⟨La, hLa⟩ : ∃ La, La = if e0 = 0 then l0 else [] := ⟨_, rfl⟩
  have hLL : La.length ≤ 4096 := by
    rw [hLa]
    split
    · omega
    · simp
  replace hLa := Aside0.mk hLa
  replace hok := Aside0.mk hok
  replace hK := Aside0.mk hK
  replace hsame := Aside0.mk hsame
  replace hLL := Aside0.mk hLL
  replace ok1 := Aside0.mk ok1
  replace ok2 := Aside0.mk ok2
  have HR0 := Aside0.mk hr0
  have HC0 := Aside0.mk hc0
  have HR1 := Aside0.mk hr1
  have HC1 := Aside0.mk hc1
  have HR2 := Aside0.mk hr2
  have HC2 := Aside0.mk hc2
  clear hr0 hc0 hr1 hc1 hr2 hc2 hw g1 g2 g3
  obtain ⟨L, hL⟩ : ∃ L, L = agL ⟨kd, n, c, s, ⟨td, tn⟩, ⟨ps, bo, ⟨rd, rn⟩⟩⟩ v1 La := ⟨_, rfl⟩
  replace hL := Aside0.mk hL
  go_enter Tryd.func9, Tryd.ntmps9
  go_wp2_with (first | ((with_reducible refine d_ 4 ?_); refine X_ 4 #[.int .i64 kd, .int .i64 n, .string c, .string s, .int .i64 td, .string tn, .slice A ps.length ca, .bool bo, .int .i64 rd, .string rn] 57 ?_; intro gx hg w1 hbox hb; have BX := Aside0.mk hbox; have HB := Aside0.mk hb; clear hbox hb hg) | ((with_reducible refine d_ 5 ?_); refine X_ 5 #[.int .i64 kd', .int .i64 n', .string c', .string s', .int .i64 td', .string tn', .slice A' ps'.length ca', .bool bo', .int .i64 rd', .string rn'] 57 ?_; intro gy hg w2 hbox hb; have BY := Aside0.mk hbox; have n0_ := Aside0.mk (blk_below BX.out hb); have n1_ := Aside0.mk (below_then HB.out HB.out.size hb); clear BX HB hbox hb hg; have BX := n0_; have HB := n1_; clear n0_ n1_) | ((with_reducible refine gt_ 14 ?_); (try (refine gate_guard (by rfl) ?_; dsimp only)); refine gc_ 15 Tryd.func14 #[] ?_; refine (known.frame _).mono ?_; rintro e1 w3 ⟨rfl, hb⟩; refine ⟨_, rfl, ?_⟩; have n0_ := Aside0.mk (blk_below BX.out hb); have n1_ := Aside0.mk (below_then HB.out HB.out.size hb); have n2_ := Aside0.mk (blk_below BY.out hb); clear BX BY HB hb; have BX := n0_; have HB := n1_; have BY := n2_; clear n0_ n1_ n2_; have y6 := (c10_ BX.out).2.2.2.2.2.2.1; have y7 := (c10_ BY.out).2.2.2.2.2.2.1; have n0_ := Aside0.mk (Kd.C_below HR0.out HB.out); have n1_ := Aside0.mk (Kd.C_below HR1.out HB.out); have n2_ := Aside0.mk (Kd.C_below HR2.out HB.out); clear HR0 HR1 HR2; have HR0 := n0_; have HR1 := n1_; have HR2 := n2_; clear n0_ n1_ n2_) | ((with_reducible refine gt_ 26 ?_); (try (refine gate_guard (by rfl) ?_; dsimp only)); refine gc_ 35 Tryd.func26 #[.slice A0 l0.length c0] ?_; refine (AI_new hok.out hLa.out hLL.out HR0.out HC0.out hK.out (Below.refl _ _)).mono ?_; rintro e4 w4 ⟨ga, F, rfl, ha, hs⟩; refine ⟨_, rfl, ?_⟩; have HA := Aside0.mk ha; clear ha hs) | ((with_reducible refine gt_ 26 ?_); (try (refine gate_guard (by rfl) ?_; dsimp only)); refine gc_ 37 Tryd.func26 #[.slice A0 l0.length c0] ?_; refine (AI_new hok.out hLa.out hLL.out HR0.out HC0.out hK.out HA.out.2.2.2).mono ?_; rintro e5 w5 ⟨gb, G, rfl, hbb, hs⟩; refine ⟨_, rfl, ?_⟩; have HD := Aside0.mk (fun k (hf : F k) (hg : G k) => (hs.own k hg).elim id (fun h => absurd (PB_lt HA.out.1 k hf) (Nat.not_lt.2 h))); have n0_ := Aside0.mk (AI_apart HA.out hs (fun _ _ h => h) (fun _ h => h.elim)); have HBB := Aside0.mk hbb; clear HA hbb hs; have HA := n0_; clear n0_; have HBX := Aside0.mk (c10_ (blk_below BX.out HA.out.2.2.2)); have HBY := Aside0.mk (c10_ (blk_below BY.out HA.out.2.2.2)); obtain ⟨z0, z1, z2, z3, z4, z5, z6, z7, z8, z9⟩ := HBX.out) | ((with_reducible refine gt_ 30 ?_); (try (refine gate_guard (by rfl) ?_; dsimp only)); refine gc_ 46 Tryd.func30 #[.pointer (some ⟨ga, 0, none⟩), .agg #[.int .i64 kd, .int .i64 n, .string c, .string s, .int .i64 td, .string tn, .slice A ps.length ca, .bool bo, .int .i64 rd, .string rn]] ?_; refine (AI_again (x := ⟨kd, n, c, s, ⟨td, tn⟩, ⟨ps, bo, ⟨rd, rn⟩⟩⟩) ok1.out HC1.out HR1.out HA.out).mono ?_; rintro e6 w6 ⟨F1, rfl, ha, hs⟩; refine ⟨_, rfl, ?_⟩; rw [← hL.out] at ha; clear z0 z1 z2 z3 z4 z5 z6 z7 z8 z9 HBX HBY; have n1_ := Aside0.mk (AI_apart HBB.out hs (fun k hg hf => HD.out k hf hg) HA.out.2.2.1); have n2_ := Aside0.mk (fun k (hf : F1 k) (hg : G k) => (hs.own k hf).elim (fun h => HD.out k h hg) (fun h => absurd (PB_lt HBB.out.1 k hg) (Nat.not_lt.2 h))); clear HA HBB HD hs; have HA := Aside0.mk ha; have HBB := n1_; have HD := n2_; clear ha n1_ n2_; obtain ⟨z0, z1, z2, z3, z4, z5, z6, z7, z8, z9⟩ := c10_ (blk_below BY.out HA.out.2.2.2)) | ((with_reducible refine gt_ 30 ?_); (try (refine gate_guard (by rfl) ?_; dsimp only)); refine gc_ 49 Tryd.func30 #[.pointer (some ⟨gb, 0, none⟩), .agg #[.int .i64 kd', .int .i64 n', .string c', .string s', .int .i64 td', .string tn', .slice A' ps'.length ca', .bool bo', .int .i64 rd', .string rn']] ?_; refine (AI_again (x := ⟨kd', n', c', s', ⟨td', tn'⟩, ⟨ps', bo', ⟨rd', rn'⟩⟩⟩) ok2.out HC2.out HR2.out HBB.out).mono ?_; rintro e7 w7 ⟨G1, rfl, hbb, hs⟩; refine ⟨_, rfl, ?_⟩; clear z0 z1 z2 z3 z4 z5 z6 z7 z8 z9; have n1_ := Aside0.mk (AI_apart HA.out hs HD.out HBB.out.2.2.1); clear HA HBB HD hbb hs; have HA := n1_; clear n1_) | ((with_reducible refine gt_ 29 ?_); (try (refine gate_guard (by rfl) ?_; dsimp only)); refine gc_ 51 Tryd.func29 #[.pointer (some ⟨ga, 0, none⟩)] ?_; refine (AI_pool HA.out).mono ?_; rintro e8 w8 ⟨vx, rfl, ho, hb⟩; refine ⟨_, rfl, ?_⟩; obtain ⟨Ax, cx, rfl⟩ := Kd.R_slice ho; have HX := Aside0.mk (Kd.R_within ho); have HF := Aside0.mk (PB_lt HA.out.1); have s37 := Aside0.mk HA.out.2.2.2.size; have s78 := Aside0.mk hb.size; have n0_ := Aside0.mk (AI_below HA.out hb); clear HA hb ho; have HA := n0_; clear n0_) | ((with_reducible refine gt_ 29 ?_); (try (refine gate_guard (by rfl) ?_; dsimp only)); refine gc_ 53 Tryd.func29 #[.pointer (some ⟨ga, 0, none⟩)] ?_; refine (AI_pool HA.out).mono ?_; rintro e9 w9 ⟨vy, rfl, ho, hb⟩; refine ⟨_, rfl, ?_⟩; obtain ⟨Ay, cy, rfl⟩ := Kd.R_slice ho; have HY := Aside0.mk (Kd.R_within ho); have s89 := Aside0.mk hb.size; have n1_ := Aside0.mk (Kd.R_below HX.out hb); have n0_ := Aside0.mk (AI_below HA.out hb); clear HA HX hb ho; have HA := n0_; have HX := n1_; clear n0_ n1_) | ((with_reducible refine d_ 54 ?_); refine Kd.R_lit k50 _ 50 ?hg (N := 54) ?hd (xs := ([] : List (S50))) (inner := []) (ok := fun _ => True) (okp := fun _ => True) ?hr ?hp (fun _ hk => hk) trivial (Below.refl _ _) (Nat.le_refl _) (by simp) ?_; (case hd => rfl); (case hg => rfl); (case hr => first | (go_simp; done) | (go_simp; rfl)); (case hp => exact (Reps.none _ _)); intro v54 w10 ho hb hg_ hnew_; clear hg_ hnew_; (try simp only [Int.reduceToNat] at ho); have HO := Aside0.mk ho; have HBq := Aside0.mk hb; have n0_ := Aside0.mk (AI_below HA.out hb); have n1_ := Aside0.mk (Kd.R_below HX.out hb); have n2_ := Aside0.mk (Kd.R_below HY.out hb); clear HA HX HY hb ho; have HA := n0_; have HX := n1_; have HY := n2_; clear n0_ n1_ n2_) | ((with_reducible refine gate_builtin (b := .append) (xs := #[.tmp 54, .tmp 55]) rfl ?_); at_builtin; refine Kd.R_append_rows k50 (w0 := w9) w9.heap.size rfl (.tmp 54) (.tmp 55) 22 50 (.agg #[(.int .i64 0), (.string ⟨#[]⟩), (.int .i64 0), (.int .i64 0), (.int .i64 0), (.int .i64 0)]) 56 rfl Tryd.underlying22 info50 rfl (by decide) (by omega) v54 [] L _ _ _ (fun _ => True) (fun _ => False) rfl rfl ?aO ?aR (fun _ _ h => h) (fun _ h => h.elim) ?aF ?aB ?aS ?aL ?_; (case aR => exact (Kd.R_reads' HY.out).2.2); (case aB => exact HBq.out); (case aF => exact (fun _ _ => trivial)); (case aO => exact HO.out); (case aS => exact HBq.out.size); (case aL => have := HA.out.2.1; simp only [List.length_nil]; omega); intro v56 w11 ho hb hg_ hat; rw [List.nil_append] at ho; obtain ⟨Aw, cw, rfl⟩ := Kd.R_slice ho; have HW := Aside0.mk (Kd.R_within ho); have HS11 := Aside0.mk hb.size; have hgn : w10.grownBy w11 v54.ownBlock := hg_; have n0_ := Aside0.mk (AI_grown HA.out hgn (fun k e => ⟨fun hf => by have h1 := HF.out k hf; have h2 := own_lo HO.out k e; have h3 := s78.out; have h4 := s89.out; omega, by have h2 := own_lo HO.out k e; have h3 := s37.out; have h4 := s78.out; have h5 := s89.out; omega⟩)); have n1_ := Aside0.mk (Kd.R_step HX.out (fun k hk hlt => hgn.block k hlt (fun e => by have h2 := own_lo HO.out k e.symm; have h3 := s89.out; have h4 := hk.2; omega))); have n2_ := Aside0.mk (Kd.R_step HY.out (fun k hk hlt => hgn.block k hlt (fun e => by have h2 := own_lo HO.out k e.symm; have h4 := hk.2; omega))); clear HA HX HY HO HBq hgn hg_ hat hb ho; have HA := n0_; have HX := n1_; have HY := n2_; clear n0_ n1_ n2_))
  have s911 := HS11
  clear HS11
  have hL4 := HA.out.2.1
  generalize w7.heap.size = B7 at HX HF s37 s78
  generalize w8.heap.size = B8 at HX HY s78 s89
  generalize w9.heap.size = B9 at HY HW s89 s911
  go_loopg [12] L.length (fun kq v12 w' => ∃ (i : Nat) (ys : List S50), v12 = .int .i64 (i : Int) ∧ Aside0 (i + kq = L.length) ∧ Aside0 (Kd.R k50 50 w' 0 (fun k => B7 ≤ k ∧ k < B8) (.slice Ax L.length cx) ys) ∧ Aside0 (Kd.R k50 50 w' 0 (fun k => B8 ≤ k ∧ k < B9) (.slice Ay L.length cy) L) ∧ Aside0 (Kd.R k50 50 w' 0 (fun k => B9 ≤ k ∧ k < w11.heap.size) (.slice Aw L.length cw) L) ∧ Aside0 (AI w3 w' F1 ga L) ∧ Aside0 (w11.heap.size ≤ w'.heap.size))
  case atStart => exact ⟨0, _, rfl, ⟨by omega⟩, HX, HY, HW, HA, ⟨Nat.le_refl _⟩⟩
  case round =>
    clear HX HY HW HA
    obtain ⟨i, ys, rfl, hi, HX, HY, HW, HA, hsz⟩ := hrel
    by_cases hlt : i < L.length
    · have d1 : decide ((i : Int) < (L.length : Int)) = true := decide_eq_true (by omega)
      have d2 : decide (i < L.length) = true := decide_eq_true hlt
      obtain ⟨gm, eA, ⟨hg7, hg8⟩, _⟩ := own_form HX.out (by omega)
      subst eA
      obtain ⟨y, x0, x1, x2, x3, x4, x5, f0, f1, f2, f3, f4, f5⟩ := own_at HX.out i hlt
      have HP := own_set HX.out i hlt (⟨77, (⟨#[]⟩ : ByteArray), 0, 0, 0, 0⟩ : S50)
      have hg := HP.2
      have HA2 := Aside0.mk (AI_grown HA.out hg (fun k e => by obtain rfl := Option.some.inj e; exact ⟨fun hf => by have h1 := HF.out _ hf; omega, by have h3 := s37.out; omega⟩))
      have HY2 := Aside0.mk (Kd.R_step HY.out (fun k hk hlt2 => hg.block k hlt2 (fun e => by have h := Option.some.inj e; have h3 := hk.1; omega)))
      have HW2' := Aside0.mk (Kd.R_step HW.out (fun k hk hlt2 => hg.block k hlt2 (fun e => by have h := Option.some.inj e; have h3 := hk.1; have h4 := s89.out; omega)))
      have hsz2 := Aside0.mk (Nat.le_trans hsz.out hg.size)
      have HX2 := Aside0.mk HP.1
      clear HP HX HY HW HA hg hsz
      have e1 : wrap64 ((i : Int) + 1) = ((i + 1 : Nat) : Int) := by unfold wrap64; omega
      replace e1 := Aside0.mk e1
      go_wp2
      go_roundg (gk - 1)
      case measure => have := hi.out; omega
      case rel => exact ⟨i + 1, _, by first | rfl | (rw [← e1.out]), ⟨by have := hi.out; omega⟩, HX2, HY2, HW2', HA2, hsz2⟩
    · have d1 : decide ((i : Int) < (L.length : Int)) = false := decide_eq_false (by omega)
      have d2 : decide (i < L.length) = false := decide_eq_false hlt
      have hlx := Aside0.mk (Kd.R_reads' HX.out).1
      have s96 := Aside0.mk (Nat.le_trans s911.out hsz.out)
      have s116 := hsz
      obtain ⟨B6, hB6⟩ : ∃ B6, B6 = wr.heap.size := ⟨_, rfl⟩
      have hs6 := Aside0.mk (Nat.le_of_eq hB6)
      have n0_ := Aside0.mk (Kd.R_mono (ok' := fun k => (B7 ≤ k ∧ k < B8) ∨ B6 ≤ k) HX.out (fun k hk => .inl hk))
      rw [← hB6] at s96 s116
      clear hB6 HX hi hsz
      generalize w11.heap.size = B11 at HW s911 s116
      go_wp2
      clear d1 d2 hlt
      go_loopg [9, 13] 20 (fun kq v9 v13 w' => ∃ (i : Nat) (ys : List S50), v13 = .int .i64 (i : Int) ∧ Aside0 (i + kq = 20) ∧ Aside0 (ys.length = L.length + i) ∧ Aside0 (Kd.R k50 50 w' 0 (fun k => (B7 ≤ k ∧ k < B8) ∨ B6 ≤ k) v9 ys) ∧ Aside0 (Kd.R k50 50 w' 0 (fun k => B8 ≤ k ∧ k < B9) (.slice Ay L.length cy) L) ∧ Aside0 (Kd.R k50 50 w' 0 (fun k => B9 ≤ k ∧ k < B11) (.slice Aw L.length cw) L) ∧ Aside0 (AI w3 w' F1 ga L) ∧ Aside0 (B6 ≤ w'.heap.size))
      case atStart => exact ⟨0, ys, rfl, ⟨by omega⟩, ⟨by have := hlx.out; omega⟩, n0_, HY, HW, HA, hs6⟩
      case round =>
        clear n0_ HY HW HA hs6 hlx
        obtain ⟨i, ys, rfl, hi, hly, HX, HY, HW, HA, hs6⟩ := hrel
        by_cases hlt : i < 20
        · have d1 : decide ((i : Int) < 20) = true := decide_eq_true (by omega)
          have d2 : decide (i < 20) = true := decide_eq_true hlt
          have e1 : wrap64 ((i : Int) + 1) = ((i + 1 : Nat) : Int) := by unfold wrap64; omega
          replace e1 := Aside0.mk e1
          go_wp2_with (first | ((with_reducible refine gate_builtin (b := .append) (xs := #[.tmp 71, .tmp 73]) rfl ?_); at_builtin; refine Kd.R_append k50 (w0 := wr) 0 rfl (.tmp 71) (.tmp 73) 22 50 (.agg #[(.int .i64 0), (.string ⟨#[]⟩), (.int .i64 0), (.int .i64 0), (.int .i64 0), (.int .i64 0)]) 56 rfl Tryd.underlying22 info50 rfl (by decide) (by omega) u9 ys (⟨78, (⟨#[]⟩ : ByteArray), 0, 0, 0, 0⟩ : S50) [.int .i64 78, .string (⟨#[]⟩ : ByteArray), .int .i64 0, .int .i64 0, .int .i64 0, .int .i64 0] (fun k => (B7 ≤ k ∧ k < B8) ∨ B6 ≤ k) (fun _ => False) rfl (by first | (go_simp; done) | (go_simp; rfl)) ?aP (fun _ hk => hk.elim) ?aF ?aO ?aB ?aS ?aL ?_; (case aP => exact k50_mkM _ _ _ (⟨78, (⟨#[]⟩ : ByteArray), 0, 0, 0, 0⟩ : S50)); (case aB => exact Below.refl _ _); (case aF => exact (fun k_ hk => .inr (Nat.le_trans hs6.out hk))); (case aO => exact HX.out); (case aS => exact Nat.zero_le _); (case aL => have := HA.out.2.1; have := hly.out; omega); intro vn wn ho hb hg hat; have n0_ := Aside0.mk (AI_grown HA.out hg (fun k e => ⟨fun hf => by have h1 := HF.out k hf; have h2 := HX.out.1 k e; have h3 := s78.out; have h4 := s89.out; have h5 := s96.out; omega, by have h2 := HX.out.1 k e; have h3 := s37.out; have h4 := s78.out; have h5 := s89.out; have h6 := s96.out; omega⟩)); have n1_ := Aside0.mk (Kd.R_step HY.out (fun k hk hlt => hg.block k hlt (fun e => by have h2 := HX.out.1 k e.symm; have h3 := hk.1; have h4 := hk.2; have h5 := s96.out; omega))); have n2_ := Aside0.mk (Kd.R_step HW.out (fun k hk hlt => hg.block k hlt (fun e => by have h2 := HX.out.1 k e.symm; have h3 := hk.1; have h4 := hk.2; have h5 := s89.out; have h6 := s116.out; omega))); have n3_ := Aside0.mk (Nat.le_trans hs6.out hg.size); clear HA HX HY HW hs6 hb hg hat; have HA := n0_; have HY := n1_; have HW := n2_; have HX := Aside0.mk ho; have hs6 := n3_; clear n0_ n1_ n2_ n3_ ho))
          go_roundg (gk - 1)
          case measure => have := hi.out; omega
          case rel => exact ⟨i + 1, _, by first | rfl | (rw [← e1.out]), ⟨by have := hi.out; omega⟩, ⟨by rw [List.length_append]; have := hly.out; simp; omega⟩, HX, HY, HW, HA, hs6⟩
        · have d1 : decide ((i : Int) < 20) = false := decide_eq_false (by omega)
          have d2 : decide (i < 20) = false := decide_eq_false hlt
          obtain ⟨k4, hsm⟩ := hsame.out L HA.out.2.1
          replace hsm := Aside0.mk hsm
          clear HX
          go_wp2_with (first | ((with_reducible refine gt_ 17 ?_); (try (refine gate_guard (by rfl) ?_; dsimp only)); refine gc_ 77 Tryd.func17 #[.slice Ay L.length cy, .slice Aw L.length cw] ?_; refine (rows_same HY.out HW.out hsm.out).mono ?_; rintro e1 w12 ⟨rfl, hb⟩; refine ⟨_, rfl, ?_⟩; have n0_ := Aside0.mk (AI_below HA.out hb); have n1_ := Aside0.mk (Kd.R_below HW.out hb); clear HA HW HY hb; have HA := n0_; have HW := n1_; clear n0_ n1_) | ((with_reducible refine gt_ 29 ?_); (try (refine gate_guard (by rfl) ?_; dsimp only)); refine gc_ 81 Tryd.func29 #[.pointer (some ⟨ga, 0, none⟩)] ?_; refine (AI_pool HA.out).mono ?_; rintro e2 w13 ⟨vq, rfl, ho, hb⟩; refine ⟨_, rfl, ?_⟩; obtain ⟨Aq, cq, rfl⟩ := Kd.R_slice ho; have HQ := Aside0.mk ho; have n1_ := Aside0.mk (Kd.R_below HW.out hb); have HBZ := Aside0.mk (AI_below HA.out hb).2.2.2; clear HA HW hb ho; have HW := n1_; clear n1_) | ((with_reducible refine gt_ 17 ?_); (try (refine gate_guard (by rfl) ?_; dsimp only)); refine gc_ 83 Tryd.func17 #[.slice Aq L.length cq, .slice Aw L.length cw] ?_; refine (rows_same HQ.out HW.out hsm.out).mono ?_; rintro e3 w14 ⟨rfl, hb⟩; refine ⟨_, rfl, ?_⟩; have n1_ := Aside0.mk (Kd.R_below HW.out hb); have n0_ := Aside0.mk (below_then HBZ.out HBZ.out.size hb); have n2_ := Aside0.mk (c10_ (blk_below BX.out n0_.out)); clear HW HQ HBZ hb; have HW := n1_; have HBZ := n0_; clear n0_ n1_; have hw14 := Aside0.mk (Kd.R_within HW.out)) | ((with_reducible refine gt_ 26 ?_); (try (refine gate_guard (by rfl) ?_; dsimp only)); refine gc_ 87 Tryd.func26 #[.slice A0 l0.length c0] ?_; refine (AI_new hok.out hLa.out hLL.out HR0.out HC0.out hK.out HBZ.out).mono ?_; rintro e4 w15 ⟨gz, Fz, rfl, hz, hs⟩; refine ⟨_, rfl, ?_⟩; have HA := Aside0.mk hz; have n1_ := Aside0.mk (Kd.R_step HW.out (fun k hk hlt => hs.kp.block k hlt (fun h => h))); have HD := Aside0.mk (fun k (hf : Fz k) => (hs.own k hf).elim (fun h => h.elim) id); have HWl := Aside0.mk (fun k => Kd.R_lt HW.out k); clear HW hz hs n2_; have HW := n1_; clear n1_; obtain ⟨z0, z1, z2, z3, z4, z5, z6, z7, z8, z9⟩ := c10_ (blk_below BX.out HA.out.2.2.2)) | ((with_reducible refine gt_ 30 ?_); (try (refine gate_guard (by rfl) ?_; dsimp only)); refine gc_ 90 Tryd.func30 #[.pointer (some ⟨gz, 0, none⟩), .agg #[.int .i64 kd, .int .i64 n, .string c, .string s, .int .i64 td, .string tn, .slice A ps.length ca, .bool bo, .int .i64 rd, .string rn]] ?_; refine (AI_again (x := ⟨kd, n, c, s, ⟨td, tn⟩, ⟨ps, bo, ⟨rd, rn⟩⟩⟩) ok1.out HC1.out HR1.out HA.out).mono ?_; rintro e5 w16 ⟨F3, rfl, ha, hs⟩; refine ⟨_, rfl, ?_⟩; rw [← hL.out] at ha; clear z0 z1 z2 z3 z4 z5 z6 z7 z8 z9; have n1_ := Aside0.mk (Kd.R_step (Kd.R_reok (ok := fun k => ¬ Fz k) rfl HW.out (fun k hk hf => by have h1 := HD.out k hf; have h2 := HWl.out k hk; omega)) (fun k hk hlt => hs.kp.block k hlt hk)); clear HA HW HWl HD hs; have HA := Aside0.mk ha; have HW := n1_; clear ha n1_) | ((with_reducible refine gt_ 29 ?_); (try (refine gate_guard (by rfl) ?_; dsimp only)); refine gc_ 92 Tryd.func29 #[.pointer (some ⟨gz, 0, none⟩)] ?_; refine (AI_pool HA.out).mono ?_; rintro e6 w17 ⟨vq, rfl, ho, hb⟩; refine ⟨_, rfl, ?_⟩; obtain ⟨Aq, cq, rfl⟩ := Kd.R_slice ho; have HQ := Aside0.mk ho; have n1_ := Aside0.mk (Kd.R_below HW.out hb); have HBZ := Aside0.mk (AI_below HA.out hb).2.2.2; clear HA HW hb ho; have HW := n1_; clear n1_) | ((with_reducible refine gt_ 17 ?_); (try (refine gate_guard (by rfl) ?_; dsimp only)); refine gc_ 94 Tryd.func17 #[.slice Aq L.length cq, .slice Aw L.length cw] ?_; refine (rows_same HQ.out HW.out hsm.out).mono ?_; rintro e7 w18 ⟨rfl, hb⟩; refine ⟨_, rfl, ?_⟩; have n0_ := Aside0.mk (below_then HBZ.out HBZ.out.size hb); clear HW HQ HBZ hb; have HBZ := n0_; clear n0_))
          go_ret
          exact ⟨by first | rfl | simp, below_then HB.out HB.out.size HBZ.out⟩
end Go.Proofs.YtldejfkplnejjaaDoor.P
