/- The pool's builder: what each call tells, and what it has behind it. The pool's builder: types, fields, methods. The pool's builder: methods. The pool's builder: its list, copied. The pool's builder: a new one. The pool's builder: a new one with entries. A new builder with any entries; the chapter's first example. -/
import Derived.Test.YtldejfkplnejjaaDoorExtB3
import Derived.Test.YtldejfkplnejjaaDoorExtText
import Derived.Test.YtldejfkplnejjaaDoorP3
import Derived.Test.YtldejfkplnejjaaDoorP4
import Derived.Test.YtldejfkplnejjaaDoorP5
namespace Go.Proofs.YtldejfkplnejjaaDoor.P
open Go.Maps Go.WideMaps Go.MapKept
open Go.RowKit Go.Proofs.YtldejfkplnejjaaDoorW.PrintWords Go.Proofs.YtldejfkplnejjaaDoorW.PrintLast Go.Proofs.YtldejfkplnejjaaDoorW.PrintMore
set_option linter.unusedVariables false
set_option linter.unusedSimpArgs false
def Grow (L0 L1 : List S50) : Prop := ∃ E, L1 = L0 ++ E ∧ E.Nodup ∧ ∀ x ∈ E, x ∉ L0 ∧ okE x
theorem Grow.refl (L : List S50) : Grow L L := ⟨[], by simp, List.nodup_nil, by simp⟩
theorem putL_in {x : S50} {L : List S50} (h : x ∈ L) : putL x L = L := by
  obtain ⟨i, hi⟩ := fstI_mem h
  simp [putL, hi]
theorem putL_out {x : S50} {L : List S50} (h : x ∉ L) : putL x L = L ++ [x] := by simp [putL, fstI_none h]
theorem Grow.put {L0 L : List S50} {x : S50} (h : Grow L0 L) (hx : okE x) : Grow L0 (putL x L) := by
  obtain ⟨E, rfl, hn, he⟩ := h
  by_cases hm : x ∈ L0 ++ E
  · rw [putL_in hm]; exact ⟨E, rfl, hn, he⟩
  · rw [putL_out hm]
    rw [List.mem_append, not_or] at hm
    refine ⟨E ++ [x], by simp, ?_, fun y hy => ?_⟩
    · rw [List.nodup_append]
      exact ⟨hn, by simp, fun a ha b hb => by rw [List.mem_singleton] at hb; subst hb; rintro rfl; exact hm.2 ha⟩
    · rcases List.mem_append.1 hy with h1 | h1
      · exact he y h1
      · rw [List.mem_singleton] at h1; subst h1; exact ⟨hm.1, hx⟩
theorem Grow.cla {L0 L : List S50} {s : ByteArray} (h : Grow L0 L) (hs : s.size ≤ maxLen) (hL : L.length ≤ 100000000000) : Grow L0 (claL s L) := by
  have h1 := putL_len (eT s) L
  have h2 := putI_in (eT s) L
  exact (h.put (okE_T hs)).put (okE_A (by omega) h2.1 (by omega))
theorem Grow.mem {L0 L : List S50} {k : Int} {c n s : ByteArray} (h : Grow L0 L) (hk : 0 ≤ k ∧ k ≤ 1000) (hc : c.size ≤ maxLen) (hn : n.size ≤ maxLen) (hs : s.size ≤ maxLen) (hL : L.length ≤ 10000000000) : Grow L0 (memL k c n s L) := by
  have m1 := claL_len c L
  have m2 := claI_in c L
  have m3 := putL_len (eT n) (claL c L)
  have m4 := putI_in (eT n) (claL c L)
  have m6 := putI_in (eT s) (putL (eT n) (claL c L))
  exact (((h.cla hc (by omega)).put (okE_T hn)).put (okE_T hs)).put (okE_M (by omega) (by omega) (by omega) (by omega))
theorem memL_len (k : Int) (c n s : ByteArray) (L : List S50) : L.length ≤ (memL k c n s L).length ∧ (memL k c n s L).length ≤ L.length + 5 := by
  have m1 := claL_len c L
  have m3 := putL_len (eT n) (claL c L)
  have m5 := putL_len (eT s) (putL (eT n) (claL c L))
  have m6 := putL_len (memE k c n s L) (putL (eT s) (putL (eT n) (claL c L)))
  unfold memL
  omega
def kpI (i : Int) (L1 : List S50) : Int := if 4096 < L1.length then 0 else i
def kpE (L1 : List S50) : Int := if 4096 < L1.length then 4 else 0
def kpL (L0 L1 : List S50) : List S50 := if 4096 < L1.length then L0 else L1
set_option maxHeartbeats 8000000 in
set_option maxRecDepth 100000 in
theorem builder_kept.frame (i : Int) (L0 L1 : List S50) (hg : Grow L0 L1) (h0 : L0.length ≤ 4096) (hL : L1.length ≤ 1000000) (F : Nat → Prop) (g : Nat) (w : World) (h : PB w F g L1) :
    Calls Tryd.prog 73 #[.pointer (some ⟨g, 0, none⟩), .int .i64 (L0.length : Int), .int .i64 i] w fun e w' => ∃ F', e = .returned (.tuple #[.int .i64 (kpI i L1), .int .i64 (kpE L1)]) ∧ PB w' F' g (kpL L0 L1) ∧ Stp F w F' w' := by
  obtain ⟨gm, Ao, co, BG, HO⟩ := PB_list h
  have hcg : w.cell? ⟨g, 0, none⟩ = some (.slice Ao L1.length co) := (blk_cell BG 0).trans rfl
  have hfg := blk_frozen BG 0
  clear BG HO
  by_cases hf : 4096 < L1.length
  · have h1 : decide ((4096 : Int) < (L1.length : Int)) = true := decide_eq_true (by omega)
    have h2 : decide (4096 < L1.length) = true := decide_eq_true hf
    have e1 : kpI i L1 = 0 := if_pos hf
    have e2 : kpE L1 = 4 := if_pos hf
    have e3 : kpL L0 L1 = L0 := if_pos hf
    rw [e1, e2, e3]
    clear e1 e2 e3
    have hcut : Aside0 (Calls Tryd.prog 104 #[.pointer (some ⟨g, 0, none⟩), .int .i64 (L0.length : Int)] w fun e w' => ∃ F', e = .returned (.tuple #[]) ∧ PB w' F' g L0 ∧ Stp F w F' w') := by
      obtain ⟨E, rfl, hn, he⟩ := hg
      exact ⟨rows_cut.frame L0 E hn he (by rw [List.length_append] at hL; omega) (by rw [List.length_append] at hf; omega) F g w h⟩
    clear h hg
    go_enter Tryd.func73, Tryd.ntmps73
    go_wp2_with (first | ((with_reducible refine gt_ 104 ?_); (try (refine gate_guard (by rfl) ?_; dsimp only)); refine gc_ 19 Tryd.func104 #[.pointer (some ⟨g, 0, none⟩), .int .i64 (L0.length : Int)] ?_; refine (hcut.out).mono ?_; rintro e w1 ⟨F1, rfl, hp, hS⟩; refine ⟨_, rfl, ?_⟩; replace hp := Aside0.mk hp; replace hS := Aside0.mk hS))
    go_ret2
    exact ⟨_, by first | rfl | simp, hp.out, hS.out⟩
  · have h1 : decide ((4096 : Int) < (L1.length : Int)) = false := decide_eq_false (by omega)
    have h2 : decide (4096 < L1.length) = false := decide_eq_false hf
    have e1 : kpI i L1 = i := if_neg hf
    have e2 : kpE L1 = 0 := if_neg hf
    have e3 : kpL L0 L1 = L1 := if_neg hf
    rw [e1, e2, e3]
    clear e1 e2 e3 hg
    replace h := Aside0.mk h
    go_enter Tryd.func73, Tryd.ntmps73
    go_wp2
    go_ret2
    exact ⟨F, by first | rfl | simp, h.out, Stp.refl _ _⟩
theorem desc_Name.below (k : Nat) (a0 : ByteArray) (r : Bool) (w : World) (h : desc_Name.f k a0 = some r) : Calls Tryd.prog 72 #[.string a0] w fun e w' => e = .returned (.bool r) ∧ Below w.heap.size w w' := by
  refine (desc_Name.calls k a0 r w h).mono ?_
  rintro e w' ⟨he, hd⟩
  exact ⟨he, hd.below⟩
def clI (b : Bool) (s : ByteArray) (L : List S50) : Int := if b = true then kpI (claI s L) (claL s L) else 0
def clE (b : Bool) (s : ByteArray) (L : List S50) : Int := if b = true then kpE (claL s L) else 14
def clL (b : Bool) (s : ByteArray) (L : List S50) : List S50 := if b = true then kpL L (claL s L) else L
set_option maxHeartbeats 8000000 in
set_option maxRecDepth 100000 in
theorem builder_Class.frame (k : Nat) (s : ByteArray) (hs : s.size ≤ maxLen) (b : Bool) (hN : desc_Name.f k s = some b) (L : List S50) (hL : L.length ≤ 4096) (F : Nat → Prop) (g : Nat) (w : World) (h : PB w F g L) :
    Calls Tryd.prog 37 #[.pointer (some ⟨g, 0, none⟩), .string s] w fun e w' => ∃ F', e = .returned (.tuple #[.int .i64 (clI b s L), .int .i64 (clE b s L)]) ∧ PB w' F' g (clL b s L) ∧ Stp F w F' w' := by
  replace hN := Aside0.mk hN
  cases b with
  | false =>
    have e1 : clI false s L = 0 := rfl
    have e2 : clE false s L = 14 := rfl
    have e3 : clL false s L = L := rfl
    rw [e1, e2, e3]
    clear e1 e2 e3
    have hp := Aside0.mk h
    have hS := Aside0.mk (Stp.refl F w)
    clear h
    go_enter Tryd.func37, Tryd.ntmps37
    go_wp2_with (first | ((with_reducible refine gt_ 72 ?_); (try (refine gate_guard (by rfl) ?_; dsimp only)); refine gc_ 8 Tryd.func72 #[.string s] ?_; refine (desc_Name.below k s false _ hN.out).mono ?_; rintro e w1 ⟨rfl, hB2⟩; refine ⟨_, rfl, ?_⟩; have n0_ := Aside0.mk (PB_below hp.out hB2); have n1_ := Aside0.mk (hS.out.step hB2); clear hp hS hB2; have hp := n0_; have hS := n1_; clear n0_ n1_))
    go_ret2
    exact ⟨F, by first | rfl | simp, hp.out, hS.out⟩
  | true =>
    have e1 : clI true s L = kpI (claI s L) (claL s L) := rfl
    have e2 : clE true s L = kpE (claL s L) := rfl
    have e3 : clL true s L = kpL L (claL s L) := rfl
    rw [e1, e2, e3]
    clear e1 e2 e3
    have m1 := claL_len s L
    have c1 := Aside0.mk (fun (F1 : Nat → Prop) (w1 : World) (h : PB w1 F1 g L) => rows_class.frame s hs L F1 g w1 (by omega) h)
    have c2 := Aside0.mk (fun (F1 : Nat → Prop) (w1 : World) (h : PB w1 F1 g (claL s L)) => builder_kept.frame (claI s L) L (claL s L) ((Grow.refl L).cla hs (by omega)) hL (by omega) F1 g w1 h)
    generalize claL s L = L1 at c1 c2 ⊢
    generalize claI s L = i at c1 c2 ⊢
    have hp := Aside0.mk h
    have hS := Aside0.mk (Stp.refl F w)
    clear h m1
    go_enter Tryd.func37, Tryd.ntmps37
    go_wp2_with (first | ((with_reducible refine gt_ 72 ?_); (try (refine gate_guard (by rfl) ?_; dsimp only)); refine gc_ 8 Tryd.func72 #[.string s] ?_; refine (desc_Name.below k s true _ hN.out).mono ?_; rintro e w1 ⟨rfl, hB2⟩; refine ⟨_, rfl, ?_⟩; have n0_ := Aside0.mk (PB_below hp.out hB2); have n1_ := Aside0.mk (hS.out.step hB2); clear hp hS hB2; have hp := n0_; have hS := n1_; clear n0_ n1_; obtain ⟨gm, Ao, co, BG, HO⟩ := PB_list hp.out; have hcg := (blk_cell BG 0).trans (show (#[Value.slice Ao L.length co, Value.map (some gm)] : Array Value)[0]? = some (.slice Ao L.length co) from rfl); have hfg := blk_frozen BG 0; clear BG HO) | ((with_reducible refine gt_ 74 ?_); (try (refine gate_guard (by rfl) ?_; dsimp only)); refine gc_ 22 Tryd.func74 #[.pointer (some ⟨g, 0, none⟩), .string s] ?_; refine (c1.out _ _ hp.out).mono ?_; rintro e w2 ⟨F2, rfl, hp2, hs2⟩; refine ⟨_, rfl, ?_⟩; have n0_ := Aside0.mk hp2; have n1_ := Aside0.mk (hS.out.trans hs2); clear hp hS hp2 hs2; have hp := n0_; have hS := n1_; clear n0_ n1_) | ((with_reducible refine gt_ 73 ?_); (try (refine gate_guard (by rfl) ?_; dsimp only)); refine gc_ 23 Tryd.func73 #[.pointer (some ⟨g, 0, none⟩), .int .i64 (L.length : Int), .int .i64 i] ?_; refine (c2.out _ _ hp.out).mono ?_; rintro e w3 ⟨F3, rfl, hp2, hs2⟩; refine ⟨_, rfl, ?_⟩; have n0_ := Aside0.mk hp2; have n1_ := Aside0.mk (hS.out.trans hs2); clear hp hS hp2 hs2; have hp := n0_; have hS := n1_; clear n0_ n1_))
    go_ret2
    exact ⟨_, by first | rfl | simp, hp.out, hS.out⟩
end Go.Proofs.YtldejfkplnejjaaDoor.P
namespace Go.Proofs.YtldejfkplnejjaaDoor.P
open Go.Maps Go.WideMaps Go.MapKept
open Go.RowKit Go.Proofs.YtldejfkplnejjaaDoorW.PrintWords Go.Proofs.YtldejfkplnejjaaDoorW.PrintLast Go.Proofs.YtldejfkplnejjaaDoorW.PrintMore
set_option linter.unusedVariables false
set_option linter.unusedSimpArgs false
def fdI (b1 b2 : Bool) (c n s : ByteArray) (e : Int) (L : List S50) : Int := if (b1 && b2) = true then (if e = 0 then kpI (memI 5 c n s L) (memL 5 c n s L) else 0) else 0
def fdE (b1 b2 : Bool) (c n s : ByteArray) (e : Int) (L : List S50) : Int := if (b1 && b2) = true then (if e = 0 then kpE (memL 5 c n s L) else e) else 14
def fdL (b1 b2 : Bool) (c n s : ByteArray) (e : Int) (L : List S50) : List S50 := if (b1 && b2) = true then (if e = 0 then kpL L (memL 5 c n s L) else L) else L
set_option maxHeartbeats 8000000 in
set_option maxRecDepth 100000 in
theorem builder_Field.frame (k : Nat) (c n : ByteArray) (td : Int) (tn s : ByteArray) (e : Int) (b1 b2 : Bool) (hc : c.size ≤ maxLen) (hn : n.size ≤ maxLen) (hs : s.size ≤ maxLen) (h1 : desc_Name.f k c = some b1) (h2 : desc_Name.f k n = some b2) (hT : desc_TypeText.f k td tn = some (s, e)) (L : List S50) (hL : L.length ≤ 4096) (F : Nat → Prop) (g : Nat) (w : World) (h : PB w F g L) :
    Calls Tryd.prog 38 #[.pointer (some ⟨g, 0, none⟩), .string c, .string n, .agg #[.int .i64 td, .string tn]] w fun e_ w' => ∃ F', e_ = .returned (.tuple #[.int .i64 (fdI b1 b2 c n s e L), .int .i64 (fdE b1 b2 c n s e L)]) ∧ PB w' F' g (fdL b1 b2 c n s e L) ∧ Stp F w F' w' := by
  replace h1 := Aside0.mk h1
  replace h2 := Aside0.mk h2
  replace hT := Aside0.mk hT
  cases b1 with
  | false =>
    have e1 : fdI false b2 c n s e L = 0 := by cases b2 <;> rfl
    have e2 : fdE false b2 c n s e L = 14 := by cases b2 <;> rfl
    have e3 : fdL false b2 c n s e L = L := by cases b2 <;> rfl
    rw [e1, e2, e3]
    clear e1 e2 e3
    have hp := Aside0.mk h
    have hS := Aside0.mk (Stp.refl F w)
    clear h
    go_enter Tryd.func38, Tryd.ntmps38
    go_wp2_with (first | ((with_reducible refine d_ 7 ?_); refine X_ 7 #[.int .i64 td, .string tn] 34 ?_; intro gx hg w2 hbox hB2; have n0_ := Aside0.mk (PB_below hp.out hB2); have n1_ := Aside0.mk (hS.out.step hB2); clear hp hS hB2 hg; have hp := n0_; have hS := n1_; clear n0_ n1_; replace hbox := Aside0.mk hbox; have hct := c2_ hbox.out; clear hct) | ((with_reducible refine gt_ 72 ?_); (try (refine gate_guard (by rfl) ?_; dsimp only)); refine gc_ 14 Tryd.func72 #[.string c] ?_; refine (desc_Name.below k c false _ h1.out).mono ?_; rintro e1 w1 ⟨rfl, hB2⟩; refine ⟨_, rfl, ?_⟩; have n0_ := Aside0.mk (PB_below hp.out hB2); have n1_ := Aside0.mk (hS.out.step hB2); have nb_ := Aside0.mk (blk_below hbox.out hB2); clear hp hS hbox hB2; have hbox := nb_; clear nb_; have hp := n0_; have hS := n1_; clear n0_ n1_))
    go_ret2
    exact ⟨_, by first | rfl | simp, hp.out, hS.out⟩
  | true =>
  cases b2 with
  | false =>
    have e1 : fdI true false c n s e L = 0 := rfl
    have e2 : fdE true false c n s e L = 14 := rfl
    have e3 : fdL true false c n s e L = L := rfl
    rw [e1, e2, e3]
    clear e1 e2 e3
    have hp := Aside0.mk h
    have hS := Aside0.mk (Stp.refl F w)
    clear h
    go_enter Tryd.func38, Tryd.ntmps38
    go_wp2_with (first | ((with_reducible refine d_ 7 ?_); refine X_ 7 #[.int .i64 td, .string tn] 34 ?_; intro gx hg w2 hbox hB2; have n0_ := Aside0.mk (PB_below hp.out hB2); have n1_ := Aside0.mk (hS.out.step hB2); clear hp hS hB2 hg; have hp := n0_; have hS := n1_; clear n0_ n1_; replace hbox := Aside0.mk hbox; have hct := c2_ hbox.out; clear hct) | ((with_reducible refine gt_ 72 ?_); (try (refine gate_guard (by rfl) ?_; dsimp only)); refine gc_ 14 Tryd.func72 #[.string c] ?_; refine (desc_Name.below k c true _ h1.out).mono ?_; rintro e1 w1 ⟨rfl, hB2⟩; refine ⟨_, rfl, ?_⟩; have n0_ := Aside0.mk (PB_below hp.out hB2); have n1_ := Aside0.mk (hS.out.step hB2); have nb_ := Aside0.mk (blk_below hbox.out hB2); clear hp hS hbox hB2; have hbox := nb_; clear nb_; have hp := n0_; have hS := n1_; clear n0_ n1_) | ((with_reducible refine gt_ 72 ?_); (try (refine gate_guard (by rfl) ?_; dsimp only)); refine gc_ 18 Tryd.func72 #[.string n] ?_; refine (desc_Name.below k n false _ h2.out).mono ?_; rintro e1 w1 ⟨rfl, hB2⟩; refine ⟨_, rfl, ?_⟩; have n0_ := Aside0.mk (PB_below hp.out hB2); have n1_ := Aside0.mk (hS.out.step hB2); have nb_ := Aside0.mk (blk_below hbox.out hB2); clear hp hS hbox hB2; have hbox := nb_; clear nb_; have hp := n0_; have hS := n1_; clear n0_ n1_; obtain ⟨z0, z1, y0, y1⟩ := c2_ hbox.out))
    go_ret2
    exact ⟨_, by first | rfl | simp, hp.out, hS.out⟩
  | true =>
  by_cases he : e = 0
  · subst he
    have e1 : fdI true true c n s 0 L = kpI (memI 5 c n s L) (memL 5 c n s L) := rfl
    have e2 : fdE true true c n s 0 L = kpE (memL 5 c n s L) := rfl
    have e3 : fdL true true c n s 0 L = kpL L (memL 5 c n s L) := rfl
    rw [e1, e2, e3]
    clear e1 e2 e3
    have m1 := memL_len 5 c n s L
    have c1 := Aside0.mk (fun (F1 : Nat → Prop) (w1 : World) (h : PB w1 F1 g L) => rows_member.frame 5 (by omega) c n s hc hn hs L F1 g w1 (by omega) h)
    have c2 := Aside0.mk (fun (F1 : Nat → Prop) (w1 : World) (h : PB w1 F1 g (memL 5 c n s L)) => builder_kept.frame (memI 5 c n s L) L (memL 5 c n s L) ((Grow.refl L).mem (by omega) hc hn hs (by omega)) hL (by omega) F1 g w1 h)
    generalize memL 5 c n s L = L1 at c1 c2 ⊢
    generalize memI 5 c n s L = i at c1 c2 ⊢
    clear m1
    have hp := Aside0.mk h
    have hS := Aside0.mk (Stp.refl F w)
    clear h
    go_enter Tryd.func38, Tryd.ntmps38
    go_wp2_with (first | ((with_reducible refine d_ 7 ?_); refine X_ 7 #[.int .i64 td, .string tn] 34 ?_; intro gx hg w2 hbox hB2; have n0_ := Aside0.mk (PB_below hp.out hB2); have n1_ := Aside0.mk (hS.out.step hB2); clear hp hS hB2 hg; have hp := n0_; have hS := n1_; clear n0_ n1_; replace hbox := Aside0.mk hbox; have hct := c2_ hbox.out; clear hct) | ((with_reducible refine gt_ 72 ?_); (try (refine gate_guard (by rfl) ?_; dsimp only)); refine gc_ 14 Tryd.func72 #[.string c] ?_; refine (desc_Name.below k c true _ h1.out).mono ?_; rintro e1 w1 ⟨rfl, hB2⟩; refine ⟨_, rfl, ?_⟩; have n0_ := Aside0.mk (PB_below hp.out hB2); have n1_ := Aside0.mk (hS.out.step hB2); have nb_ := Aside0.mk (blk_below hbox.out hB2); clear hp hS hbox hB2; have hbox := nb_; clear nb_; have hp := n0_; have hS := n1_; clear n0_ n1_) | ((with_reducible refine gt_ 72 ?_); (try (refine gate_guard (by rfl) ?_; dsimp only)); refine gc_ 18 Tryd.func72 #[.string n] ?_; refine (desc_Name.below k n true _ h2.out).mono ?_; rintro e1 w1 ⟨rfl, hB2⟩; refine ⟨_, rfl, ?_⟩; have n0_ := Aside0.mk (PB_below hp.out hB2); have n1_ := Aside0.mk (hS.out.step hB2); have nb_ := Aside0.mk (blk_below hbox.out hB2); clear hp hS hbox hB2; have hbox := nb_; clear nb_; have hp := n0_; have hS := n1_; clear n0_ n1_; obtain ⟨z0, z1, y0, y1⟩ := c2_ hbox.out) | ((with_reducible refine gt_ 75 ?_); (try (refine gate_guard (by rfl) ?_; dsimp only)); refine gc_ 23 Tryd.func75 #[.agg #[.int .i64 td, .string tn]] ?_; refine (desc_TypeText.calls k td tn s 0 _ hT.out).mono ?_; rintro e1 w1 ⟨rfl, hB2⟩; refine ⟨_, rfl, ?_⟩; have n0_ := Aside0.mk (PB_below hp.out hB2); have n1_ := Aside0.mk (hS.out.step hB2); clear hp hS hB2; have hp := n0_; have hS := n1_; clear n0_ n1_; obtain ⟨gm, Ao, co, BG, HO⟩ := PB_list hp.out; have hcg := (blk_cell BG 0).trans (show (#[Value.slice Ao L.length co, Value.map (some gm)] : Array Value)[0]? = some (.slice Ao L.length co) from rfl); have hfg := blk_frozen BG 0; clear BG HO) | ((with_reducible refine gt_ 76 ?_); (try (refine gate_guard (by rfl) ?_; dsimp only)); refine gc_ 43 Tryd.func76 #[.pointer (some ⟨g, 0, none⟩), .int .i64 5, .string c, .string n, .string s] ?_; refine (c1.out _ _ hp.out).mono ?_; rintro e2 w2 ⟨F2, rfl, hp2, hs2⟩; refine ⟨_, rfl, ?_⟩; have n0_ := Aside0.mk hp2; have n1_ := Aside0.mk (hS.out.trans hs2); clear hp hS hp2 hs2; have hp := n0_; have hS := n1_; clear n0_ n1_) | ((with_reducible refine gt_ 73 ?_); (try (refine gate_guard (by rfl) ?_; dsimp only)); refine gc_ 44 Tryd.func73 #[.pointer (some ⟨g, 0, none⟩), .int .i64 (L.length : Int), .int .i64 i] ?_; refine (c2.out _ _ hp.out).mono ?_; rintro e3 w3 ⟨F3, rfl, hp2, hs2⟩; refine ⟨_, rfl, ?_⟩; have n0_ := Aside0.mk hp2; have n1_ := Aside0.mk (hS.out.trans hs2); clear hp hS hp2 hs2; have hp := n0_; have hS := n1_; clear n0_ n1_))
    go_ret2
    exact ⟨_, by first | rfl | simp, hp.out, hS.out⟩
  · have q1 : (e == 0) = false := beq_eq_false_iff_ne.mpr he
    have q2 : (e != 0) = true := bne_iff_ne.mpr he
    have e1 : fdI true true c n s e L = 0 := if_neg he
    have e2 : fdE true true c n s e L = e := if_neg he
    have e3 : fdL true true c n s e L = L := if_neg he
    rw [e1, e2, e3]
    clear e1 e2 e3
    clear he
    have hp := Aside0.mk h
    have hS := Aside0.mk (Stp.refl F w)
    clear h
    go_enter Tryd.func38, Tryd.ntmps38
    go_wp2_with (first | ((with_reducible refine d_ 7 ?_); refine X_ 7 #[.int .i64 td, .string tn] 34 ?_; intro gx hg w2 hbox hB2; have n0_ := Aside0.mk (PB_below hp.out hB2); have n1_ := Aside0.mk (hS.out.step hB2); clear hp hS hB2 hg; have hp := n0_; have hS := n1_; clear n0_ n1_; replace hbox := Aside0.mk hbox; have hct := c2_ hbox.out; clear hct) | ((with_reducible refine gt_ 72 ?_); (try (refine gate_guard (by rfl) ?_; dsimp only)); refine gc_ 14 Tryd.func72 #[.string c] ?_; refine (desc_Name.below k c true _ h1.out).mono ?_; rintro e1 w1 ⟨rfl, hB2⟩; refine ⟨_, rfl, ?_⟩; have n0_ := Aside0.mk (PB_below hp.out hB2); have n1_ := Aside0.mk (hS.out.step hB2); have nb_ := Aside0.mk (blk_below hbox.out hB2); clear hp hS hbox hB2; have hbox := nb_; clear nb_; have hp := n0_; have hS := n1_; clear n0_ n1_) | ((with_reducible refine gt_ 72 ?_); (try (refine gate_guard (by rfl) ?_; dsimp only)); refine gc_ 18 Tryd.func72 #[.string n] ?_; refine (desc_Name.below k n true _ h2.out).mono ?_; rintro e1 w1 ⟨rfl, hB2⟩; refine ⟨_, rfl, ?_⟩; have n0_ := Aside0.mk (PB_below hp.out hB2); have n1_ := Aside0.mk (hS.out.step hB2); have nb_ := Aside0.mk (blk_below hbox.out hB2); clear hp hS hbox hB2; have hbox := nb_; clear nb_; have hp := n0_; have hS := n1_; clear n0_ n1_; obtain ⟨z0, z1, y0, y1⟩ := c2_ hbox.out) | ((with_reducible refine gt_ 75 ?_); (try (refine gate_guard (by rfl) ?_; dsimp only)); refine gc_ 23 Tryd.func75 #[.agg #[.int .i64 td, .string tn]] ?_; refine (desc_TypeText.calls k td tn s e _ hT.out).mono ?_; rintro e1 w1 ⟨rfl, hB2⟩; refine ⟨_, rfl, ?_⟩; have n0_ := Aside0.mk (PB_below hp.out hB2); have n1_ := Aside0.mk (hS.out.step hB2); clear hp hS hB2; have hp := n0_; have hS := n1_; clear n0_ n1_))
    go_ret2
    exact ⟨_, by first | rfl | simp, hp.out, hS.out⟩
end Go.Proofs.YtldejfkplnejjaaDoor.P
namespace Go.Proofs.YtldejfkplnejjaaDoor.P
open Go.Maps Go.WideMaps Go.MapKept
open Go.RowKit Go.Proofs.YtldejfkplnejjaaDoorW.PrintWords Go.Proofs.YtldejfkplnejjaaDoorW.PrintLast Go.Proofs.YtldejfkplnejjaaDoorW.PrintMore
set_option linter.unusedVariables false
set_option linter.unusedSimpArgs false
theorem desc_Method.below (k : Nat) (a0 : ByteArray) (r : Bool) (w : World) (h : desc_Method.f k a0 = some r) : Calls Tryd.prog 94 #[.string a0] w fun e w' => e = .returned (.bool r) ∧ Below w.heap.size w w' := by
  refine (desc_Method.calls k a0 r w h).mono ?_
  rintro e w' ⟨he, hd⟩
  exact ⟨he, hd.below⟩
end Go.Proofs.YtldejfkplnejjaaDoor.P
namespace Go.Proofs.YtldejfkplnejjaaDoor.P
open Go.Maps Go.WideMaps Go.MapKept
open Go.RowKit Go.Proofs.YtldejfkplnejjaaDoorW.PrintWords Go.Proofs.YtldejfkplnejjaaDoorW.PrintLast Go.Proofs.YtldejfkplnejjaaDoorW.PrintMore
set_option linter.unusedVariables false
set_option linter.unusedSimpArgs false
theorem CLONE_EQL50 (w : World) (A : Option Addr) (n c : Nat) : (binOp .eql 22 (.slice A n c) (.slice none 0 0)).run Tryd.prog w = .ok (.bool A.isNone) w := Go.run_eql_slice_nil w 22 50 A n c Tryd.underlying22
theorem CLONE_NIL50 {w : World} {l0 : List (S50)} (h : Kd.C k50 w none l0.length l0) : l0 = [] := by
  cases l0 with
  | nil => rfl
  | cons a l => simp [Kd.C, ReadsRow] at h
set_option maxHeartbeats 8000000 in
set_option maxRecDepth 100000 in
theorem ent_clone.calls (A : Option Addr) (c : Nat) (L : List S50) (hL : L.length ≤ 1000000000000) (w : World) (HC : Kd.C k50 w A L.length L) :
    Calls Tryd.prog 60 #[.slice A L.length c] w fun e w' => ∃ v : Value, e = .returned v ∧ Kd.R k50 50 w' w.heap.size (fun _ => True) v L ∧ Below w.heap.size w w' := by
  have hnil := fun (w : World) (A : Option Addr) (n c : Nat) => CLONE_EQL50 w A n c
  cases A with
  | none =>
    have hl0 : L = [] := CLONE_NIL50 HC
    subst hl0
    go_enter Tryd.func60, Tryd.ntmps60
    go_wp2
    go_ret
    exact ⟨_, rfl, Kd.R_nil _ _ _ _ _, Below.refl _ _⟩
  | some A =>
    replace HC := Aside0.mk HC
    go_enter Tryd.func60, Tryd.ntmps60
    go_wp2_with (first | ((with_reducible refine d_ 5 ?_); refine Kd.R_lit k50 _ 50 ?hg (N := 5) ?hd (xs := ([] : List (S50))) (inner := []) (ok := fun _ => True) (okp := fun _ => True) ?hr ?hp (fun _ hk => hk) trivial (Below.refl _ _) (Nat.le_refl _) (by simp) ?_; (case hd => rfl); (case hg => rfl); (case hr => first | (go_simp; done) | (go_simp; rfl)); (case hp => exact (Reps.none _ _)); intro v5 w5 ho hb hg_ hnew_; clear hg_ hnew_; have HO := Aside0.mk ho; have HB := Aside0.mk hb; clear ho hb) | ((with_reducible refine gate_builtin (b := .append) (xs := #[.tmp 5, .tmp 6]) rfl ?_); at_builtin; refine Kd.R_append_rows k50 (w0 := w) w.heap.size rfl (.tmp 5) (.tmp 6) 22 50 (.agg #[(.int .i64 0), (.string ⟨#[]⟩), (.int .i64 0), (.int .i64 0), (.int .i64 0), (.int .i64 0)]) 56 rfl Tryd.underlying22 info50 rfl (by decide) (by omega) v5 [] L _ _ _ (fun _ => True) (fun _ => False) rfl rfl ?aO ?aR (fun _ _ h => h) (fun _ h => h.elim) ?aF ?aB ?aS ?aL ?_; (case aR => exact Kd.C_below HC.out HB.out); (case aB => exact HB.out); (case aF => exact (fun _ _ => trivial)); (case aO => exact HO.out); (case aS => exact HB.out.size); (case aL => simp only [List.length_nil]; omega); intro v6 w6 ho hb hg hat; rw [List.nil_append] at ho; have n0_ := Aside0.mk hb; have n1_ := Aside0.mk ho; clear HB HO; have HB := n0_; have HO := n1_; clear n0_ n1_ ho hb hg hat))
    go_ret
    exact ⟨_, rfl, HO.out, HB.out⟩
set_option maxHeartbeats 8000000 in
set_option maxRecDepth 100000 in
theorem builder_Pool.frame (L : List S50) (hL : L.length ≤ 1000000000000) (F : Nat → Prop) (g : Nat) (w : World) (h : PB w F g L) :
    Calls Tryd.prog 29 #[.pointer (some ⟨g, 0, none⟩)] w fun e_ w' => ∃ v : Value, e_ = .returned v ∧ Kd.R k50 50 w' w.heap.size (fun _ => True) v L ∧ Below w.heap.size w w' := by
  obtain ⟨gm, Ao, co, BG, HO⟩ := PB_list h
  have hcg : w.cell? ⟨g, 0, none⟩ = some (.slice Ao L.length co) := (blk_cell BG 0).trans rfl
  have hcl := Aside0.mk (ent_clone.calls Ao co L hL w (Kd.R_reads' HO).2.2)
  clear BG HO h
  go_enter Tryd.func29, Tryd.ntmps29
  go_wp2_with (first | ((with_reducible refine gt_ 60 ?_); (try (refine gate_guard (by rfl) ?_; dsimp only)); refine gc_ 8 Tryd.func60 #[.slice Ao L.length co] ?_; refine (hcl.out).mono ?_; rintro e w1 ⟨v, rfl, ho, hB⟩; refine ⟨_, rfl, ?_⟩; replace ho := Aside0.mk ho; replace hB := Aside0.mk hB))
  go_ret
  exact ⟨_, rfl, ho.out, hB.out⟩
end Go.Proofs.YtldejfkplnejjaaDoor.P
namespace Go.Proofs.YtldejfkplnejjaaDoor.P
open Go.Maps Go.WideMaps Go.MapKept
open Go.RowKit Go.Proofs.YtldejfkplnejjaaDoorW.PrintWords Go.Proofs.YtldejfkplnejjaaDoorW.PrintLast Go.Proofs.YtldejfkplnejjaaDoorW.PrintMore
set_option linter.unusedVariables false
set_option linter.unusedSimpArgs false
set_option maxHeartbeats 8000000 in
set_option maxRecDepth 100000 in
theorem pool_New.bad (k : Nat) (A : Option Addr) (c0 : Nat) (l : List S50) (r1 e : Int) (w : World) (HC : Kd.C k50 w A l.length l) (hc0 : l.length ≤ c0) (hK : pool_Check.f k l = some (r1, e)) (he : e ≠ 0) :
    Calls Tryd.prog 26 #[.slice A l.length c0] w fun e_ w' => ∃ g F', e_ = .returned (.pointer (some ⟨g, 0, none⟩)) ∧ PB w' F' g [] ∧ Stp (fun _ => False) w F' w' := by
  have hmm := @run_makeMap Tryd.prog
  replace HC := Aside0.mk HC
  replace hK := Aside0.mk hK
  replace hc0 := Aside0.mk hc0
  have q1 : (e == 0) = false := beq_eq_false_iff_ne.mpr he
  have q2 : (e != 0) = true := bne_iff_ne.mpr he
  clear he
  have HB := Aside0.mk (Below.refl w.heap.size w)
  go_enter Tryd.func26, Tryd.ntmps26
  go_wp2_with (first | ((with_reducible refine d_ 13 ?_); refine box_event ?hg (N := 13) ?hd (cs := #[.slice none 0 0, .map (some w.heap.size)]) (t := 103) ?hr ?_; (case hd => rfl); (case hg => rfl); (case hr => first | (go_simp; done) | (go_simp; rfl)); intro g hg w2 hbox hB2; have BG := Aside0.mk hbox; have BM := Aside0.mk (blk_below (blk_new w (.map #[] 0)) hB2); have n0_ := Aside0.mk (below_step (below_alloc HB.out (.map #[] 0)) hB2); have GG := Aside0.mk (show w.heap.size < g by rw [hg]; simp); have HD := Aside0.mk (Kd.C_below HC.out n0_.out); clear HB HC; have HB := n0_; clear n0_ hbox hB2 hg) | ((with_reducible refine gt_ 15 ?_); (try (refine gate_guard (by rfl) ?_; dsimp only)); refine gc_ 16 Tryd.func15 #[.slice A l.length c0] ?_; refine (pool_Check.calls k A c0 l r1 e _ HD.out hc0.out hK.out).mono ?_; rintro e3 w3 ⟨rfl, hB2⟩; refine ⟨_, rfl, ?_⟩; have n0_ := Aside0.mk (below_step HB.out hB2); have n1_ := Aside0.mk (blk_below BG.out hB2); have n2_ := Aside0.mk (blk_below BM.out hB2); clear HB BG BM hB2 HD; have HB := n0_; have BG := n1_; have BM := n2_; clear n0_ n1_ n2_))
  go_ret
  refine ⟨g, fun k => k = g ∨ k = w.heap.size, rfl, ⟨w.heap.size, none, 0, .map [], #[], 0, ⟨.inl rfl, .inr rfl, Nat.ne_of_lt GG.out⟩, fstD_nil, fun W h => ⟨#[], 0, h, ⟨by simp, stamped_empty 0, by simp⟩, Nat.le_refl _, rfl⟩, BG.out, BM.out, Kd.R_nil _ _ _ _ _, ?_⟩, ⟨?_, Kp.of_below HB.out⟩⟩
  · rintro k (rfl | rfl)
    · exact blk_lt BG.out
    · exact blk_lt BM.out
  · rintro k (rfl | rfl)
    · exact .inr (Nat.le_of_lt GG.out)
    · exact .inr (Nat.le_refl _)
theorem fstD_again {D : DataW Unit} {L : List S50} (h : fstD D L) {x : S50} {i : Nat} (hi : fstI x L = some i) : fstD D (L ++ [x]) := by
  refine ⟨h.1, fun y hy => ?_⟩
  have e : fstI y (L ++ [x]) = fstI y L := by
    rw [fstI_add]
    cases hf : fstI y L with
    | some j => rfl
    | none =>
      have hne : x ≠ y := by
        rintro rfl
        rw [hi] at hf
        cases hf
      simp [hne]
  rw [e]
  exact h.2 y hy
theorem owns_more {W : World} {gm n m : Nat} {D : DataW Unit} (h : W.ownsMap Tryd.prog 50 (plainElem Tryd.prog 3) gm n D) (hm : n ≤ m) : W.ownsMap Tryd.prog 50 (plainElem Tryd.prog 3) gm m D := by
  obtain ⟨es, ck, h1, h2, h3, h4⟩ := h
  exact ⟨es, ck, h1, h2, Nat.le_trans h3 hm, h4⟩
end Go.Proofs.YtldejfkplnejjaaDoor.P
namespace Go.Proofs.YtldejfkplnejjaaDoor.P
open Go.Maps Go.WideMaps Go.MapKept
open Go.RowKit Go.Proofs.YtldejfkplnejjaaDoorW.PrintWords Go.Proofs.YtldejfkplnejjaaDoorW.PrintLast Go.Proofs.YtldejfkplnejjaaDoorW.PrintMore
set_option linter.unusedVariables false
set_option linter.unusedSimpArgs false
theorem new6 {w w4 : World} {gx : Nat} {v0 v1 v2 v3 v4 v5 : Value} (hg : gx = w.heap.size) (h : w4.heap[gx]? = some (.cells #[v0, v1, v2, v3, v4, v5] 50 (0, 0))) (hB : Below w.heap.size w w4) (u0 u1 u2 u3 u4 u5 : Value) :
    Below w.heap.size w ((((((w4.setCell ⟨gx, 0, none⟩ u0).setCell ⟨gx, 1, none⟩ u1).setCell ⟨gx, 2, none⟩ u2).setCell ⟨gx, 3, none⟩ u3).setCell ⟨gx, 4, none⟩ u4).setCell ⟨gx, 5, none⟩ u5) ∧ ((((((w4.setCell ⟨gx, 0, none⟩ u0).setCell ⟨gx, 1, none⟩ u1).setCell ⟨gx, 2, none⟩ u2).setCell ⟨gx, 3, none⟩ u3).setCell ⟨gx, 4, none⟩ u4).setCell ⟨gx, 5, none⟩ u5).heap[gx]? = some (.cells #[u0, u1, u2, u3, u4, u5] 50 (0, 0)) := by
  have hk : Kp (fun k => k = gx) w4 ((((((w4.setCell ⟨gx, 0, none⟩ u0).setCell ⟨gx, 1, none⟩ u1).setCell ⟨gx, 2, none⟩ u2).setCell ⟨gx, 3, none⟩ u3).setCell ⟨gx, 4, none⟩ u4).setCell ⟨gx, 5, none⟩ u5) :=
    Kp.setCell (p := ⟨gx, 5, none⟩) (Kp.setCell (p := ⟨gx, 4, none⟩) (Kp.setCell (p := ⟨gx, 3, none⟩) (Kp.setCell (p := ⟨gx, 2, none⟩) (Kp.setCell (p := ⟨gx, 1, none⟩) (Kp.setCell (F := fun k => k = gx) (p := ⟨gx, 0, none⟩) (Kp.refl _ w4) rfl u0) rfl u1) rfl u2) rfl u3) rfl u4) rfl u5
  refine ⟨hB.trans (hk.below (fun k e => by omega) hB.size), ?_⟩
  exact blk_put (blk_put (blk_put (blk_put (blk_put (blk_put h 0 u0 rfl) 1 u1 rfl) 2 u2 rfl) 3 u3 rfl) 4 u4 rfl) 5 u5 rfl
set_option maxHeartbeats 8000000 in
set_option maxRecDepth 100000 in
theorem pool_New.good (k : Nat) (A : Option Addr) (c0 : Nat) (l : List S50) (r1 : Int) (w : World) (hok : ∀ x ∈ l, okE x) (hl : l.length ≤ 4096) (HC : Kd.C k50 w A l.length l) (hc0 : l.length ≤ c0) (hK : pool_Check.f k l = some (r1, 0)) :
    Calls Tryd.prog 26 #[.slice A l.length c0] w fun e_ w' => ∃ g F', e_ = .returned (.pointer (some ⟨g, 0, none⟩)) ∧ PB w' F' g l ∧ Stp (fun _ => False) w F' w' := by
  have hmm := @run_makeMap Tryd.prog
  have HC0 := Aside0.mk HC
  replace HC := Aside0.mk HC
  replace hK := Aside0.mk hK
  replace hc0 := Aside0.mk hc0
  replace hok := Aside0.mk hok
  have HB := Aside0.mk (Below.refl w.heap.size w)
  go_enter Tryd.func26, Tryd.ntmps26
  go_wp2_with (first | ((with_reducible refine d_ 13 ?_); refine box_event ?hg (N := 13) ?hd (cs := #[.slice none 0 0, .map (some w.heap.size)]) (t := 103) ?hr ?_; (case hd => rfl); (case hg => rfl); (case hr => first | (go_simp; done) | (go_simp; rfl)); intro g hg w2 hbox hB2; have BG := Aside0.mk hbox; have BM := Aside0.mk (blk_below (blk_new w (.map #[] 0)) hB2); have n0_ := Aside0.mk (below_step (below_alloc HB.out (.map #[] 0)) hB2); have GG := Aside0.mk (show w.heap.size < g by rw [hg]; simp); have HD := Aside0.mk (Kd.C_below HC.out n0_.out); clear HB HC; have HB := n0_; clear n0_ hbox hB2 hg) | ((with_reducible refine gt_ 15 ?_); (try (refine gate_guard (by rfl) ?_; dsimp only)); refine gc_ 16 Tryd.func15 #[.slice A l.length c0] ?_; refine (pool_Check.calls k A c0 l r1 0 _ HD.out hc0.out hK.out).mono ?_; rintro e3 w3 ⟨rfl, hB2⟩; refine ⟨_, rfl, ?_⟩; have n0_ := Aside0.mk (below_step HB.out hB2); have n1_ := Aside0.mk (blk_below BG.out hB2); have n2_ := Aside0.mk (blk_below BM.out hB2); have n3_ := Aside0.mk (Kd.C_below HC0.out n0_.out); clear HB BG BM hB2 HD; have HD := n3_; clear n3_; have HB := n0_; have BG := n1_; have BM := n2_; clear n0_ n1_ n2_))
  have HP : PB w3 (fun k => k = g ∨ k = w.heap.size) g [] := ⟨w.heap.size, none, 0, .map [], #[], 0, ⟨.inl rfl, .inr rfl, Nat.ne_of_lt GG.out⟩, fstD_nil, fun W h => ⟨#[], 0, h, ⟨by simp, stamped_empty 0, by simp⟩, Nat.le_refl _, rfl⟩, BG.out, BM.out, Kd.R_nil _ _ _ _ _, by
    rintro k (rfl | rfl)
    · exact blk_lt BG.out
    · exact blk_lt BM.out⟩
  have HS : Stp (fun _ => False) w (fun k => k = g ∨ k = w.heap.size) w3 := ⟨by
    rintro k (rfl | rfl)
    · exact .inr (Nat.le_of_lt GG.out)
    · exact .inr (Nat.le_refl _), Kp.of_below HB.out⟩
  replace HP := Aside0.mk HP
  replace HS := Aside0.mk HS
  clear BG BM HB
  go_loopg [24] l.length (fun kq v24 w' => ∃ (i : Nat) (F : Nat → Prop), v24 = .int .i64 (i : Int) ∧ Aside0 (i + kq = l.length) ∧ Aside0 (PB w' F g (l.take i)) ∧ Aside0 (Stp (fun _ => False) w F w'))
  case atStart => exact ⟨0, _, rfl, ⟨by omega⟩, HP, HS⟩
  case round =>
    clear HP HS
    obtain ⟨i, F, rfl, hi, HP, HS⟩ := hrel
    by_cases hlt : i < l.length
    · have b1 : decide ((i : Int) < (l.length : Int)) = true := decide_eq_true (by omega)
      have b2 : decide (i < l.length) = true := decide_eq_true hlt
      have HCr := Kd.C_below HC0.out (Kp.below HS.out.kp (fun _ h => h.elim) (Nat.le_refl _))
      obtain ⟨ad, eA, hx0, hx1, hx2, hx3, hx4, hx5⟩ := at_T50 HCr (i : Int) (by omega) (by omega)
      subst eA
      rw [Int.toNat_natCast] at hx0 hx1 hx2 hx3 hx4 hx5
      have hy : l[i]? = some (rd_T50 l (i : Int)) := by
        unfold rd_T50
        rw [Int.toNat_natCast, List.getD_eq_getElem?_getD, List.getElem?_eq_getElem hlt]
        rfl
      generalize rd_T50 l (i : Int) = x at hx0 hx1 hx2 hx3 hx4 hx5 hy
      replace hy := Aside0.mk hy
      clear HCr
      go_wp2_with (first | ((with_reducible refine d_ 7 ?_); refine X_ 7 #[.int .i64 0, .string (⟨#[]⟩ : ByteArray), .int .i64 0, .int .i64 0, .int .i64 0, .int .i64 0] 50 ?_; intro gx hg w4 hb3 hB3; have HBX := Aside0.mk hb3; have HBB := Aside0.mk hB3; have HGX := Aside0.mk hg; obtain ⟨z0, z1, z2, z3, z4, z5, y0, y1, y2, y3, y4, y5⟩ := c6_ hb3; clear hb3 hB3 hg))
      have hW := Aside0.mk (new6 HGX.out HBX.out HBB.out (.int .i64 x.f0) (.string x.f1) (.int .i64 x.f2) (.int .i64 x.f3) (.int .i64 x.f4) (.int .i64 x.f5))
      generalize ((((((w4.setCell ⟨gx, 0, none⟩ (.int .i64 x.f0)).setCell ⟨gx, 1, none⟩ (.string x.f1)).setCell ⟨gx, 2, none⟩ (.int .i64 x.f2)).setCell ⟨gx, 3, none⟩ (.int .i64 x.f3)).setCell ⟨gx, 4, none⟩ (.int .i64 x.f4)).setCell ⟨gx, 5, none⟩ (.int .i64 x.f5)) = W at hW ⊢
      have HB := Aside0.mk hW.out.1
      have BX := Aside0.mk hW.out.2
      clear hW HBX HBB z0 z1 z2 z3 z4 z5 y0 y1 y2 y3 y4 y5 hx0 hx1 hx2 hx3 hx4 hx5
      obtain ⟨gm, Ao, co, D, es, clock, ⟨hg0, hm0, hgm⟩, HD, HF, BG, BM, HO, HL⟩ := PB_below HP.out HB.out
      generalize hLt : List.take i l = L at HP HD HF BG BM HO
      have hx : okE x := hok.out x (List.mem_of_getElem? hy.out)
      obtain ⟨c, hc, hlook⟩ := look_run HF hx BM
      obtain ⟨hh, hi2⟩ := HD.2 x hx
      rw [hh] at hlook
      replace hlook := Aside0.mk hlook
      replace HF := Aside0.mk HF
      replace HD := Aside0.mk HD
      replace HL := Aside0.mk HL
      replace BG := Aside0.mk BG
      replace BM := Aside0.mk BM
      replace HO := Aside0.mk HO
      replace hx := Aside0.mk hx
      replace hLt := Aside0.mk hLt
      cases hf : fstI x L with
      | some j =>
        rw [hf] at hlook
        clear hc hh
        refine start_ (n := 12) (S := fun w' => w'.cell? ⟨gx, 0, none⟩ = some (.int .i64 x.f0) ∧ w'.cell? ⟨gx, 1, none⟩ = some (.string x.f1) ∧ w'.cell? ⟨gx, 2, none⟩ = some (.int .i64 x.f2) ∧ w'.cell? ⟨gx, 3, none⟩ = some (.int .i64 x.f3) ∧ w'.cell? ⟨gx, 4, none⟩ = some (.int .i64 x.f4) ∧ w'.cell? ⟨gx, 5, none⟩ = some (.int .i64 x.f5) ∧ w'.cell? ⟨g, 0, none⟩ = some (.slice Ao L.length co) ∧ w'.cell? ⟨g, 1, none⟩ = some (.map (some gm)) ∧ w'.heap[gm]? = some (.map es clock)) (ds := []) #[false, false, false, false, false, false, false, false, false, false, false, false] (by kernel_rfl) rfl rfl ⟨(blk_cell BX.out 0).trans rfl, (blk_cell BX.out 1).trans rfl, (blk_cell BX.out 2).trans rfl, (blk_cell BX.out 3).trans rfl, (blk_cell BX.out 4).trans rfl, (blk_cell BX.out 5).trans rfl, (blk_cell BG.out 0).trans rfl, (blk_cell BG.out 1).trans rfl, BM.out⟩ (fun hHeld => ?_)
        refine pure_ (i := 0) (N := some 29) (v := ?_) (a' := ?_) #[true, false, false, false, false, false, false, false, false, false, false, false] rfl rfl (by kernel_rfl) (fun _ _ _ h => h) (Or.inl ⟨by rfl, ?_⟩) ?_ ?_
        rotate_left
        · intro w'
          go_simp
          with_reducible rfl
        rotate_left
        · simp only [Act.put, List.setIfInBounds_toArray, List.set_cons_zero, List.set_cons_succ, i64_w, i32_w]
          rfl
        refine pure_ (i := 1) (N := some 30) (v := ?_) (a' := ?_) #[true, true, false, false, false, false, false, false, false, false, false, false] rfl rfl (by kernel_rfl) (fun _ _ _ h => h) (Or.inl ⟨by rfl, ?_⟩) ?_ ?_
        rotate_left
        · intro w'
          go_simp
          with_reducible rfl
        rotate_left
        · simp only [Act.put, List.setIfInBounds_toArray, List.set_cons_zero, List.set_cons_succ, i64_w, i32_w]
          rfl
        refine pure_ (i := 2) (N := some 31) (v := ?_) (a' := ?_) #[true, true, true, false, false, false, false, false, false, false, false, false] rfl rfl (by kernel_rfl) (fun _ _ _ h => h) (Or.inl ⟨by rfl, ?_⟩) ?_ ?_
        rotate_left
        · intro w'
          go_simp
          with_reducible rfl
        rotate_left
        · simp only [Act.put, List.setIfInBounds_toArray, List.set_cons_zero, List.set_cons_succ, i64_w, i32_w]
          rfl
        refine pure_ (i := 3) (N := some 32) (v := ?_) (a' := ?_) #[true, true, true, true, false, false, false, false, false, false, false, false] rfl rfl (by kernel_rfl) (fun _ _ _ h => h) (Or.inl ⟨by rfl, ?_⟩) ?_ ?_
        rotate_left
        · intro w'
          go_simp
          with_reducible rfl
        rotate_left
        · simp only [Act.put, List.setIfInBounds_toArray, List.set_cons_zero, List.set_cons_succ, i64_w, i32_w]
          rfl
        refine take_ (i := 4) (N := some 33) (v := ?_) (a' := ?_) #[true, true, true, true, true, false, false, false, false, false, false, false] rfl rfl (by kernel_rfl) (fun _ _ _ h => h) (Or.inl ⟨by rfl, ?_⟩) hHeld ?_ ?_
        rotate_left
        · rintro w' ⟨s0, s1, s2, s3, s4, s5, s6, s7, s8⟩
          go_simp
          with_reducible rfl
        rotate_left
        · simp only [Act.put, List.setIfInBounds_toArray, List.set_cons_zero, List.set_cons_succ, i64_w, i32_w]
          rfl
        refine take_ (i := 5) (N := some 34) (v := ?_) (a' := ?_) #[true, true, true, true, true, true, false, false, false, false, false, false] rfl rfl (by kernel_rfl) (fun _ _ _ h => h) (Or.inl ⟨by rfl, ?_⟩) hHeld ?_ ?_
        rotate_left
        · rintro w' ⟨s0, s1, s2, s3, s4, s5, s6, s7, s8⟩
          go_simp
          with_reducible rfl
        rotate_left
        · simp only [Act.put, List.setIfInBounds_toArray, List.set_cons_zero, List.set_cons_succ, i64_w, i32_w]
          rfl
        refine take_ (i := 6) (N := some 35) (v := .tuple #[.int .i64 c, .bool true]) (a' := ?_) #[true, true, true, true, true, true, true, false, false, false, false, false] rfl rfl (by kernel_rfl) (fun _ _ _ h => h) (Or.inl ⟨by rfl, ?_⟩) hHeld ?_ ?_
        · rintro w' ⟨s0, s1, s2, s3, s4, s5, s6, s7, s8⟩
          have hrun := hlook.out w' s8
          unfold entV at hrun
          simp only [execOp]
          go_simp
        rotate_left
        · simp only [Act.put, List.setIfInBounds_toArray, List.set_cons_zero, List.set_cons_succ, i64_w, i32_w]
          rfl
        refine pure_ (i := 7) (N := some 28) (v := ?_) (a' := ?_) #[true, true, true, true, true, true, true, true, false, false, false, false] rfl rfl (by kernel_rfl) (fun _ _ _ h => h) (Or.inl ⟨by rfl, ?_⟩) ?_ ?_
        rotate_left
        · intro w'
          go_simp
          with_reducible rfl
        rotate_left
        · simp only [Act.put, List.setIfInBounds_toArray, List.set_cons_zero, List.set_cons_succ, i64_w, i32_w]
          rfl
        refine pure_ (i := 8) (N := some 36) (v := ?_) (a' := ?_) #[true, true, true, true, true, true, true, true, true, false, false, false] rfl rfl (by kernel_rfl) (fun _ _ _ h => h) (Or.inl ⟨by rfl, ?_⟩) ?_ ?_
        rotate_left
        · intro w'
          go_simp
          with_reducible rfl
        rotate_left
        · simp only [Act.put, List.setIfInBounds_toArray, List.set_cons_zero, List.set_cons_succ, i64_w, i32_w]
          rfl
        refine pure_ (i := 9) (N := some 37) (v := ?_) (a' := ?_) #[true, true, true, true, true, true, true, true, true, true, false, false] rfl rfl (by kernel_rfl) (fun _ _ _ h => h) (Or.inl ⟨by rfl, ?_⟩) ?_ ?_
        rotate_left
        · intro w'
          go_simp
          with_reducible rfl
        rotate_left
        · simp only [Act.put, List.setIfInBounds_toArray, List.set_cons_zero, List.set_cons_succ, i64_w, i32_w]
          rfl
        refine pure_ (i := 10) (N := some 8) (v := ?_) (a' := ?_) #[true, true, true, true, true, true, true, true, true, true, true, false] rfl rfl (by kernel_rfl) (fun _ _ _ h => h) (Or.inl ⟨by rfl, ?_⟩) ?_ ?_
        rotate_left
        · intro w'
          go_simp
          with_reducible rfl
        rotate_left
        · simp only [Act.put, List.setIfInBounds_toArray, List.set_cons_zero, List.set_cons_succ, i64_w, i32_w]
          rfl
        refine pure_ (i := 11) (N := some 9) (v := ?_) (a' := ?_) #[true, true, true, true, true, true, true, true, true, true, true, true] rfl rfl (by kernel_rfl) (fun _ _ _ h => h) (Or.inl ⟨by rfl, ?_⟩) ?_ ?_
        rotate_left
        · intro w'
          go_simp
          with_reducible rfl
        rotate_left
        · simp only [Act.put, List.setIfInBounds_toArray, List.set_cons_zero, List.set_cons_succ, i64_w, i32_w]
          rfl
        refine done_ (by kernel_rfl) ?_
        go_wp2
        clear hHeld
        have NXO : Aside0 (some gx ≠ (Value.slice Ao L.length co).ownBlock) := ⟨fun e => by have h1 := (HO.out.1 gx e.symm).2.2; have h2 := PB_lt HP.out gx h1; have h3 := HGX.out; omega⟩
        have n0_ := Aside0.mk (blk_drew BG.out)
        have n1_ := Aside0.mk (blk_drew BX.out)
        have n2_ := Aside0.mk (blk_drew BM.out)
        have n3_ := Aside0.mk (Kd.R_mono (ok' := fun k => k ≠ g ∧ k ≠ gm ∧ (F k ∨ wr.heap.size ≤ k)) (Kd.R_drew HO.out) (fun k hk => ⟨hk.1, hk.2.1, .inl hk.2.2⟩))
        have n4_ := Aside0.mk (below_drew HB.out)
        have hLl : L.length ≤ 4096 := by rw [← hLt.out, List.length_take]; omega
        clear BG BX BM HO HB hlook
        have BG := n0_
        have BX := n1_
        have BM := n2_
        have HO := n3_
        have HB := n4_
        clear n0_ n1_ n2_ n3_ n4_
        generalize W.drew = w4 at BG BX BM HO HB ⊢
        refine start_ (n := 13) (S := fun w' => w'.cell? ⟨gx, 0, none⟩ = some (.int .i64 x.f0) ∧ w'.cell? ⟨gx, 1, none⟩ = some (.string x.f1) ∧ w'.cell? ⟨gx, 2, none⟩ = some (.int .i64 x.f2) ∧ w'.cell? ⟨gx, 3, none⟩ = some (.int .i64 x.f3) ∧ w'.cell? ⟨gx, 4, none⟩ = some (.int .i64 x.f4) ∧ w'.cell? ⟨gx, 5, none⟩ = some (.int .i64 x.f5) ∧ w'.cell? ⟨g, 0, none⟩ = some (.slice Ao L.length co)) (ds := [12]) #[false, false, false, false, false, false, false, false, false, false, false, false, false] (by kernel_rfl) rfl rfl ⟨(blk_cell BX.out 0).trans rfl, (blk_cell BX.out 1).trans rfl, (blk_cell BX.out 2).trans rfl, (blk_cell BX.out 3).trans rfl, (blk_cell BX.out 4).trans rfl, (blk_cell BX.out 5).trans rfl, (blk_cell BG.out 0).trans rfl⟩ (fun hHeld => ?_)
        refine pure_ (i := 0) (N := some 52) (v := ?_) (a' := ?_) #[true, false, false, false, false, false, false, false, false, false, false, false, false] rfl rfl (by kernel_rfl) (fun _ _ _ h => h) (Or.inl ⟨by rfl, ?_⟩) ?_ ?_
        rotate_left
        · intro w'
          go_simp
          with_reducible rfl
        rotate_left
        · simp only [Act.put, List.setIfInBounds_toArray, List.set_cons_zero, List.set_cons_succ, i64_w, i32_w]
          rfl
        refine pure_ (i := 1) (N := some 53) (v := ?_) (a' := ?_) #[true, true, false, false, false, false, false, false, false, false, false, false, false] rfl rfl (by kernel_rfl) (fun _ _ _ h => h) (Or.inl ⟨by rfl, ?_⟩) ?_ ?_
        rotate_left
        · intro w'
          go_simp
          with_reducible rfl
        rotate_left
        · simp only [Act.put, List.setIfInBounds_toArray, List.set_cons_zero, List.set_cons_succ, i64_w, i32_w]
          rfl
        refine pure_ (i := 2) (N := some 54) (v := ?_) (a' := ?_) #[true, true, true, false, false, false, false, false, false, false, false, false, false] rfl rfl (by kernel_rfl) (fun _ _ _ h => h) (Or.inl ⟨by rfl, ?_⟩) ?_ ?_
        rotate_left
        · intro w'
          go_simp
          with_reducible rfl
        rotate_left
        · simp only [Act.put, List.setIfInBounds_toArray, List.set_cons_zero, List.set_cons_succ, i64_w, i32_w]
          rfl
        refine pure_ (i := 3) (N := some 55) (v := ?_) (a' := ?_) #[true, true, true, true, false, false, false, false, false, false, false, false, false] rfl rfl (by kernel_rfl) (fun _ _ _ h => h) (Or.inl ⟨by rfl, ?_⟩) ?_ ?_
        rotate_left
        · intro w'
          go_simp
          with_reducible rfl
        rotate_left
        · simp only [Act.put, List.setIfInBounds_toArray, List.set_cons_zero, List.set_cons_succ, i64_w, i32_w]
          rfl
        refine pure_ (i := 4) (N := some 56) (v := ?_) (a' := ?_) #[true, true, true, true, true, false, false, false, false, false, false, false, false] rfl rfl (by kernel_rfl) (fun _ _ _ h => h) (Or.inl ⟨by rfl, ?_⟩) ?_ ?_
        rotate_left
        · intro w'
          go_simp
          with_reducible rfl
        rotate_left
        · simp only [Act.put, List.setIfInBounds_toArray, List.set_cons_zero, List.set_cons_succ, i64_w, i32_w]
          rfl
        refine take_ (i := 5) (N := some 57) (v := ?_) (a' := ?_) #[true, true, true, true, true, true, false, false, false, false, false, false, false] rfl rfl (by kernel_rfl) (fun _ _ _ h => h) (Or.inl ⟨by rfl, ?_⟩) hHeld ?_ ?_
        rotate_left
        · rintro w' ⟨s0, s1, s2, s3, s4, s5, s6⟩
          go_simp
          with_reducible rfl
        rotate_left
        · simp only [Act.put, List.setIfInBounds_toArray, List.set_cons_zero, List.set_cons_succ, i64_w, i32_w]
          rfl
        refine take_ (i := 6) (N := some 58) (v := ?_) (a' := ?_) #[true, true, true, true, true, true, true, false, false, false, false, false, false] rfl rfl (by kernel_rfl) (fun _ _ _ h => h) (Or.inl ⟨by rfl, ?_⟩) hHeld ?_ ?_
        rotate_left
        · rintro w' ⟨s0, s1, s2, s3, s4, s5, s6⟩
          go_simp
          with_reducible rfl
        rotate_left
        · simp only [Act.put, List.setIfInBounds_toArray, List.set_cons_zero, List.set_cons_succ, i64_w, i32_w]
          rfl
        refine one_ (i := 7) (N := some 59) #[true, true, true, true, true, true, true, true, false, false, false, false, false] rfl rfl (by kernel_rfl) (by decide) (fun K hK => ?_)
        refine val_ (w1 := w4.drew.alloc (.cells #[.int .i64 x.f0, .string x.f1, .int .i64 x.f2, .int .i64 x.f3, .int .i64 x.f4, .int .i64 x.f5] 50)) (.slice (some ⟨w4.drew.heap.size, 0, none⟩) 1 1) (by rfl) rfl ?_ ?_
        · first | (go_simp; done) | (go_simp; rfl)
        refine hK.out _ _ ⟨(blk_cell (blk_alloc (blk_drew BX.out) _) 0).trans rfl, (blk_cell (blk_alloc (blk_drew BX.out) _) 1).trans rfl, (blk_cell (blk_alloc (blk_drew BX.out) _) 2).trans rfl, (blk_cell (blk_alloc (blk_drew BX.out) _) 3).trans rfl, (blk_cell (blk_alloc (blk_drew BX.out) _) 4).trans rfl, (blk_cell (blk_alloc (blk_drew BX.out) _) 5).trans rfl, (blk_cell (blk_alloc (blk_drew BG.out) _) 0).trans rfl⟩ (fun hHeld2 => ?_)
        have hm5 : ∀ k, w4.drew.heap.size ≤ k → k ≠ g ∧ k ≠ gm ∧ (F k ∨ wr.heap.size ≤ k) := fun k hk => by have h1 := blk_lt BG.out; have h2 := blk_lt BM.out; have h3 : w4.heap.size ≤ k := hk; have h4 := HB.out.size; exact ⟨by omega, by omega, .inr (by omega)⟩
        obtain ⟨v5, w5, hrun5, HO5, hg5, hb5⟩ := ent_append x (W := w4.drew) (base := 0) (L := L) (v := .slice Ao L.length co) (Nat.zero_le _) (Kd.R_drew HO.out) hm5 (by omega) 22
        obtain ⟨L2, hL2⟩ : ∃ L2 : List S50, L2 = L ++ [x] := ⟨_, rfl⟩
        rw [← hL2] at HO5
        replace hL2 := Aside0.mk hL2
        have BG5 := blk_grown (blk_drew BG.out) hg5 (fun e => (HO.out.1 g e.symm).1 rfl)
        have BX5 := blk_grown (blk_drew BX.out) hg5 NXO.out
        have BM5 := blk_grown (blk_drew BM.out) hg5 (fun e => (HO.out.1 gm e.symm).2.1 rfl)
        refine one_ (i := 8) (N := some 60) #[true, true, true, true, true, true, true, true, true, false, false, false, false] rfl rfl (by kernel_rfl) (by decide) (fun K2 hK2 => ?_)
        refine val_ (w1 := w5) v5 (by rfl) rfl ?_ ?_
        · exact app_run_ rfl rfl rfl hrun5
        refine hK2.out _ _ ⟨(blk_cell BX5 0).trans rfl, (blk_cell BX5 1).trans rfl, (blk_cell BX5 2).trans rfl, (blk_cell BX5 3).trans rfl, (blk_cell BX5 4).trans rfl, (blk_cell BX5 5).trans rfl, (blk_cell BG5 0).trans rfl⟩ (fun hHeld3 => ?_)
        refine pure_ (i := 9) (N := some 61) (v := ?_) (a' := ?_) #[true, true, true, true, true, true, true, true, true, true, false, false, false] rfl rfl (by kernel_rfl) (fun _ _ _ h => h) (Or.inl ⟨by rfl, ?_⟩) ?_ ?_
        rotate_left
        · intro w'
          go_simp
          with_reducible rfl
        rotate_left
        · simp only [Act.put, List.setIfInBounds_toArray, List.set_cons_zero, List.set_cons_succ, i64_w, i32_w]
          rfl
        refine pure_ (i := 10) (N := some 62) (v := ?_) (a' := ?_) #[true, true, true, true, true, true, true, true, true, true, true, false, false] rfl rfl (by kernel_rfl) (fun _ _ _ h => h) (Or.inl ⟨by rfl, ?_⟩) ?_ ?_
        rotate_left
        · intro w'
          go_simp
          with_reducible rfl
        rotate_left
        · simp only [Act.put, List.setIfInBounds_toArray, List.set_cons_zero, List.set_cons_succ, i64_w, i32_w]
          rfl
        refine pure_ (i := 11) (N := some 63) (v := ?_) (a' := ?_) #[true, true, true, true, true, true, true, true, true, true, true, true, false] rfl rfl (by kernel_rfl) (fun _ _ _ h => h) (Or.inl ⟨by rfl, ?_⟩) ?_ ?_
        rotate_left
        · intro w'
          go_simp
          with_reducible rfl
        rotate_left
        · simp only [Act.put, List.setIfInBounds_toArray, List.set_cons_zero, List.set_cons_succ, i64_w, i32_w]
          rfl
        have hs26 : w5.cell? ⟨g, 0, none⟩ = some (.slice Ao L.length co) := (blk_cell BG5 0).trans rfl
        have hfs26 := blk_frozen BG5 0
        obtain ⟨A5, c5, e5⟩ := Kd.R_slice HO5
        subst e5
        refine last_ (i := 12) (N := none) #[true, true, true, true, true, true, true, true, true, true, true, true, true] rfl rfl (by kernel_rfl) (by decide) (fun K3 hK3 => ?_)
        refine skip_ (w1 := w5.setCell ⟨g, 0, none⟩ (.slice A5 L2.length c5)) (by rfl) rfl ?_ ?_
        · first | (go_simp; done) | (go_simp; rfl)
        refine hK3 _ _ ?_
        refine done_ (by kernel_rfl) ?_
        have hkp : Kp F wr (w5.setCell ⟨g, 0, none⟩ (.slice A5 L2.length c5)) := Kp.setCell (p := ⟨g, 0, none⟩) (Kp.grown (Kp.drew (Kp.of_below HB.out)) hg5 (fun k hk hlt => by rcases (HO.out.1 k hk).2.2 with h | h; exact h; omega)) hg0 _
        have HP6 : PB (w5.setCell ⟨g, 0, none⟩ (.slice A5 L2.length c5)) (fun k => (F k ∨ wr.heap.size ≤ k) ∧ k < (w5.setCell ⟨g, 0, none⟩ (.slice A5 L2.length c5)).heap.size) g L2 := by
          have BG6 := blk_put BG5 0 (.slice A5 L2.length c5) (cs' := #[.slice A5 L2.length c5, .map (some gm)]) rfl
          have BM6 := (Below.heap_setCell w5 ⟨g, 0, none⟩ (.slice A5 L2.length c5) gm hgm).trans BM5
          exact ⟨gm, A5, c5, _, es, clock, ⟨⟨.inl hg0, blk_lt BG6⟩, ⟨.inl hm0, blk_lt BM6⟩, hgm⟩, by rw [hL2.out]; exact fstD_again HD.out hf, fun W h => by rw [hL2.out]; exact owns_more (HF.out W h) (by simp), BG6, BM6,
            Kd.R_mono (Kd.R_bound (Kd.R_far (p := ⟨g, 0, none⟩) HO5 (fun k hk => hk.1) _)) (fun k hk => ⟨hk.1.1, hk.1.2.1, hk.1.2.2, hk.2.2.1⟩), fun k hk => hk.2⟩
        have HS6 : Stp (fun _ => False) w (fun k => (F k ∨ wr.heap.size ≤ k) ∧ k < (w5.setCell ⟨g, 0, none⟩ (.slice A5 L2.length c5)).heap.size) (w5.setCell ⟨g, 0, none⟩ (.slice A5 L2.length c5)) := HS.out.trans ⟨fun k hk => hk.1, hkp⟩
        have htk : l.take (i + 1) = L2 := by rw [List.take_add_one, hy.out, hLt.out, hL2.out]; rfl
        replace htk := Aside0.mk htk
        have e1 : wrap64 ((i : Int) + 1) = ((i + 1 : Nat) : Int) := by unfold wrap64; omega
        replace e1 := Aside0.mk e1
        replace HP6 := Aside0.mk HP6
        replace HS6 := Aside0.mk HS6
        clear hHeld hHeld2 hHeld3 hs26 hfs26 BG5 BX5 BM5 HO5 hkp hf
        try go_wp2
        go_roundg (gk - 1)
        case measure => have := hi.out; omega
        case rel =>
          exact ⟨i + 1, _, by first | rfl | (rw [← e1.out]), ⟨by have := hi.out; omega⟩, (by rw [htk.out]; exact HP6), HS6⟩
      | none =>
        rw [hf] at hlook
        clear hc hh
        refine start_ (n := 12) (S := fun w' => w'.cell? ⟨gx, 0, none⟩ = some (.int .i64 x.f0) ∧ w'.cell? ⟨gx, 1, none⟩ = some (.string x.f1) ∧ w'.cell? ⟨gx, 2, none⟩ = some (.int .i64 x.f2) ∧ w'.cell? ⟨gx, 3, none⟩ = some (.int .i64 x.f3) ∧ w'.cell? ⟨gx, 4, none⟩ = some (.int .i64 x.f4) ∧ w'.cell? ⟨gx, 5, none⟩ = some (.int .i64 x.f5) ∧ w'.cell? ⟨g, 0, none⟩ = some (.slice Ao L.length co) ∧ w'.cell? ⟨g, 1, none⟩ = some (.map (some gm)) ∧ w'.heap[gm]? = some (.map es clock)) (ds := []) #[false, false, false, false, false, false, false, false, false, false, false, false] (by kernel_rfl) rfl rfl ⟨(blk_cell BX.out 0).trans rfl, (blk_cell BX.out 1).trans rfl, (blk_cell BX.out 2).trans rfl, (blk_cell BX.out 3).trans rfl, (blk_cell BX.out 4).trans rfl, (blk_cell BX.out 5).trans rfl, (blk_cell BG.out 0).trans rfl, (blk_cell BG.out 1).trans rfl, BM.out⟩ (fun hHeld => ?_)
        refine pure_ (i := 0) (N := some 29) (v := ?_) (a' := ?_) #[true, false, false, false, false, false, false, false, false, false, false, false] rfl rfl (by kernel_rfl) (fun _ _ _ h => h) (Or.inl ⟨by rfl, ?_⟩) ?_ ?_
        rotate_left
        · intro w'
          go_simp
          with_reducible rfl
        rotate_left
        · simp only [Act.put, List.setIfInBounds_toArray, List.set_cons_zero, List.set_cons_succ, i64_w, i32_w]
          rfl
        refine pure_ (i := 1) (N := some 30) (v := ?_) (a' := ?_) #[true, true, false, false, false, false, false, false, false, false, false, false] rfl rfl (by kernel_rfl) (fun _ _ _ h => h) (Or.inl ⟨by rfl, ?_⟩) ?_ ?_
        rotate_left
        · intro w'
          go_simp
          with_reducible rfl
        rotate_left
        · simp only [Act.put, List.setIfInBounds_toArray, List.set_cons_zero, List.set_cons_succ, i64_w, i32_w]
          rfl
        refine pure_ (i := 2) (N := some 31) (v := ?_) (a' := ?_) #[true, true, true, false, false, false, false, false, false, false, false, false] rfl rfl (by kernel_rfl) (fun _ _ _ h => h) (Or.inl ⟨by rfl, ?_⟩) ?_ ?_
        rotate_left
        · intro w'
          go_simp
          with_reducible rfl
        rotate_left
        · simp only [Act.put, List.setIfInBounds_toArray, List.set_cons_zero, List.set_cons_succ, i64_w, i32_w]
          rfl
        refine pure_ (i := 3) (N := some 32) (v := ?_) (a' := ?_) #[true, true, true, true, false, false, false, false, false, false, false, false] rfl rfl (by kernel_rfl) (fun _ _ _ h => h) (Or.inl ⟨by rfl, ?_⟩) ?_ ?_
        rotate_left
        · intro w'
          go_simp
          with_reducible rfl
        rotate_left
        · simp only [Act.put, List.setIfInBounds_toArray, List.set_cons_zero, List.set_cons_succ, i64_w, i32_w]
          rfl
        refine take_ (i := 4) (N := some 33) (v := ?_) (a' := ?_) #[true, true, true, true, true, false, false, false, false, false, false, false] rfl rfl (by kernel_rfl) (fun _ _ _ h => h) (Or.inl ⟨by rfl, ?_⟩) hHeld ?_ ?_
        rotate_left
        · rintro w' ⟨s0, s1, s2, s3, s4, s5, s6, s7, s8⟩
          go_simp
          with_reducible rfl
        rotate_left
        · simp only [Act.put, List.setIfInBounds_toArray, List.set_cons_zero, List.set_cons_succ, i64_w, i32_w]
          rfl
        refine take_ (i := 5) (N := some 34) (v := ?_) (a' := ?_) #[true, true, true, true, true, true, false, false, false, false, false, false] rfl rfl (by kernel_rfl) (fun _ _ _ h => h) (Or.inl ⟨by rfl, ?_⟩) hHeld ?_ ?_
        rotate_left
        · rintro w' ⟨s0, s1, s2, s3, s4, s5, s6, s7, s8⟩
          go_simp
          with_reducible rfl
        rotate_left
        · simp only [Act.put, List.setIfInBounds_toArray, List.set_cons_zero, List.set_cons_succ, i64_w, i32_w]
          rfl
        refine take_ (i := 6) (N := some 35) (v := .tuple #[.int .i64 c, .bool false]) (a' := ?_) #[true, true, true, true, true, true, true, false, false, false, false, false] rfl rfl (by kernel_rfl) (fun _ _ _ h => h) (Or.inl ⟨by rfl, ?_⟩) hHeld ?_ ?_
        · rintro w' ⟨s0, s1, s2, s3, s4, s5, s6, s7, s8⟩
          have hrun := hlook.out w' s8
          unfold entV at hrun
          simp only [execOp]
          go_simp
        rotate_left
        · simp only [Act.put, List.setIfInBounds_toArray, List.set_cons_zero, List.set_cons_succ, i64_w, i32_w]
          rfl
        refine pure_ (i := 7) (N := some 28) (v := ?_) (a' := ?_) #[true, true, true, true, true, true, true, true, false, false, false, false] rfl rfl (by kernel_rfl) (fun _ _ _ h => h) (Or.inl ⟨by rfl, ?_⟩) ?_ ?_
        rotate_left
        · intro w'
          go_simp
          with_reducible rfl
        rotate_left
        · simp only [Act.put, List.setIfInBounds_toArray, List.set_cons_zero, List.set_cons_succ, i64_w, i32_w]
          rfl
        refine pure_ (i := 8) (N := some 36) (v := ?_) (a' := ?_) #[true, true, true, true, true, true, true, true, true, false, false, false] rfl rfl (by kernel_rfl) (fun _ _ _ h => h) (Or.inl ⟨by rfl, ?_⟩) ?_ ?_
        rotate_left
        · intro w'
          go_simp
          with_reducible rfl
        rotate_left
        · simp only [Act.put, List.setIfInBounds_toArray, List.set_cons_zero, List.set_cons_succ, i64_w, i32_w]
          rfl
        refine pure_ (i := 9) (N := some 37) (v := ?_) (a' := ?_) #[true, true, true, true, true, true, true, true, true, true, false, false] rfl rfl (by kernel_rfl) (fun _ _ _ h => h) (Or.inl ⟨by rfl, ?_⟩) ?_ ?_
        rotate_left
        · intro w'
          go_simp
          with_reducible rfl
        rotate_left
        · simp only [Act.put, List.setIfInBounds_toArray, List.set_cons_zero, List.set_cons_succ, i64_w, i32_w]
          rfl
        refine pure_ (i := 10) (N := some 8) (v := ?_) (a' := ?_) #[true, true, true, true, true, true, true, true, true, true, true, false] rfl rfl (by kernel_rfl) (fun _ _ _ h => h) (Or.inl ⟨by rfl, ?_⟩) ?_ ?_
        rotate_left
        · intro w'
          go_simp
          with_reducible rfl
        rotate_left
        · simp only [Act.put, List.setIfInBounds_toArray, List.set_cons_zero, List.set_cons_succ, i64_w, i32_w]
          rfl
        refine pure_ (i := 11) (N := some 9) (v := ?_) (a' := ?_) #[true, true, true, true, true, true, true, true, true, true, true, true] rfl rfl (by kernel_rfl) (fun _ _ _ h => h) (Or.inl ⟨by rfl, ?_⟩) ?_ ?_
        rotate_left
        · intro w'
          go_simp
          with_reducible rfl
        rotate_left
        · simp only [Act.put, List.setIfInBounds_toArray, List.set_cons_zero, List.set_cons_succ, i64_w, i32_w]
          rfl
        refine done_ (by kernel_rfl) ?_
        go_wp2
        clear hHeld
        have hLl : L.length ≤ 4096 := by rw [← hLt.out, List.length_take]; omega
        have hltm : L.length < maxLen := by unfold maxLen; omega
        have hwl : (Lit.int .i64 (L.length : Int)).wf = true := WalkArith.wf_i64 (by omega)
        have NXO : Aside0 (some gx ≠ (Value.slice Ao L.length co).ownBlock) := ⟨fun e => by have h1 := (HO.out.1 gx e.symm).2.2; have h2 := PB_lt HP.out gx h1; have h3 := HGX.out; omega⟩
        have NXM : Aside0 (gx ≠ gm) := ⟨fun e => by have h2 := PB_lt HP.out gm hm0; have h3 := HGX.out; omega⟩
        refine start_ (n := 13) (S := fun w' => w'.cell? ⟨gx, 0, none⟩ = some (.int .i64 x.f0) ∧ w'.cell? ⟨gx, 1, none⟩ = some (.string x.f1) ∧ w'.cell? ⟨gx, 2, none⟩ = some (.int .i64 x.f2) ∧ w'.cell? ⟨gx, 3, none⟩ = some (.int .i64 x.f3) ∧ w'.cell? ⟨gx, 4, none⟩ = some (.int .i64 x.f4) ∧ w'.cell? ⟨gx, 5, none⟩ = some (.int .i64 x.f5) ∧ w'.cell? ⟨g, 0, none⟩ = some (.slice Ao L.length co) ∧ w'.cell? ⟨g, 1, none⟩ = some (.map (some gm)) ∧ w'.heap[gm]? = some (.map es clock)) (ds := [12]) #[false, false, false, false, false, false, false, false, false, false, false, false, false] (by kernel_rfl) rfl rfl ⟨(blk_cell BX.out 0).trans rfl, (blk_cell BX.out 1).trans rfl, (blk_cell BX.out 2).trans rfl, (blk_cell BX.out 3).trans rfl, (blk_cell BX.out 4).trans rfl, (blk_cell BX.out 5).trans rfl, (blk_cell BG.out 0).trans rfl, (blk_cell BG.out 1).trans rfl, BM.out⟩ (fun hHeld => ?_)
        refine pure_ (i := 0) (N := some 40) (v := ?_) (a' := ?_) #[true, false, false, false, false, false, false, false, false, false, false, false, false] rfl rfl (by kernel_rfl) (fun _ _ _ h => h) (Or.inl ⟨by rfl, ?_⟩) ?_ ?_
        rotate_left
        · intro w'
          go_simp
          with_reducible rfl
        rotate_left
        · simp only [Act.put, List.setIfInBounds_toArray, List.set_cons_zero, List.set_cons_succ, i64_w, i32_w]
          rfl
        refine pure_ (i := 1) (N := some 41) (v := ?_) (a' := ?_) #[true, true, false, false, false, false, false, false, false, false, false, false, false] rfl rfl (by kernel_rfl) (fun _ _ _ h => h) (Or.inl ⟨by rfl, ?_⟩) ?_ ?_
        rotate_left
        · intro w'
          go_simp
          with_reducible rfl
        rotate_left
        · simp only [Act.put, List.setIfInBounds_toArray, List.set_cons_zero, List.set_cons_succ, i64_w, i32_w]
          rfl
        refine pure_ (i := 2) (N := some 42) (v := ?_) (a' := ?_) #[true, true, true, false, false, false, false, false, false, false, false, false, false] rfl rfl (by kernel_rfl) (fun _ _ _ h => h) (Or.inl ⟨by rfl, ?_⟩) ?_ ?_
        rotate_left
        · intro w'
          go_simp
          with_reducible rfl
        rotate_left
        · simp only [Act.put, List.setIfInBounds_toArray, List.set_cons_zero, List.set_cons_succ, i64_w, i32_w]
          rfl
        refine pure_ (i := 3) (N := some 43) (v := ?_) (a' := ?_) #[true, true, true, true, false, false, false, false, false, false, false, false, false] rfl rfl (by kernel_rfl) (fun _ _ _ h => h) (Or.inl ⟨by rfl, ?_⟩) ?_ ?_
        rotate_left
        · intro w'
          go_simp
          with_reducible rfl
        rotate_left
        · simp only [Act.put, List.setIfInBounds_toArray, List.set_cons_zero, List.set_cons_succ, i64_w, i32_w]
          rfl
        refine take_ (i := 4) (N := some 44) (v := ?_) (a' := ?_) #[true, true, true, true, true, false, false, false, false, false, false, false, false] rfl rfl (by kernel_rfl) (fun _ _ _ h => h) (Or.inl ⟨by rfl, ?_⟩) hHeld ?_ ?_
        rotate_left
        · rintro w' ⟨s0, s1, s2, s3, s4, s5, s6, s7, s8⟩
          go_simp
          with_reducible rfl
        rotate_left
        · simp only [Act.put, List.setIfInBounds_toArray, List.set_cons_zero, List.set_cons_succ, i64_w, i32_w]
          rfl
        refine take_ (i := 5) (N := some 45) (v := ?_) (a' := ?_) #[true, true, true, true, true, true, false, false, false, false, false, false, false] rfl rfl (by kernel_rfl) (fun _ _ _ h => h) (Or.inl ⟨by rfl, ?_⟩) hHeld ?_ ?_
        rotate_left
        · rintro w' ⟨s0, s1, s2, s3, s4, s5, s6, s7, s8⟩
          go_simp
          with_reducible rfl
        rotate_left
        · simp only [Act.put, List.setIfInBounds_toArray, List.set_cons_zero, List.set_cons_succ, i64_w, i32_w]
          rfl
        refine pure_ (i := 6) (N := some 46) (v := ?_) (a' := ?_) #[true, true, true, true, true, true, true, false, false, false, false, false, false] rfl rfl (by kernel_rfl) (fun _ _ _ h => h) (Or.inl ⟨by rfl, ?_⟩) ?_ ?_
        rotate_left
        · intro w'
          go_simp
          with_reducible rfl
        rotate_left
        · simp only [Act.put, List.setIfInBounds_toArray, List.set_cons_zero, List.set_cons_succ, i64_w, i32_w]
          rfl
        refine pure_ (i := 7) (N := some 47) (v := ?_) (a' := ?_) #[true, true, true, true, true, true, true, true, false, false, false, false, false] rfl rfl (by kernel_rfl) (fun _ _ _ h => h) (Or.inl ⟨by rfl, ?_⟩) ?_ ?_
        rotate_left
        · intro w'
          go_simp
          with_reducible rfl
        rotate_left
        · simp only [Act.put, List.setIfInBounds_toArray, List.set_cons_zero, List.set_cons_succ, i64_w, i32_w]
          rfl
        refine pure_ (i := 8) (N := some 48) (v := ?_) (a' := ?_) #[true, true, true, true, true, true, true, true, true, false, false, false, false] rfl rfl (by kernel_rfl) (fun _ _ _ h => h) (Or.inl ⟨by rfl, ?_⟩) ?_ ?_
        rotate_left
        · intro w'
          go_simp
          with_reducible rfl
        rotate_left
        · simp only [Act.put, List.setIfInBounds_toArray, List.set_cons_zero, List.set_cons_succ, i64_w, i32_w]
          rfl
        refine pure_ (i := 9) (N := some 49) (v := ?_) (a' := ?_) #[true, true, true, true, true, true, true, true, true, true, false, false, false] rfl rfl (by kernel_rfl) (fun _ _ _ h => h) (Or.inl ⟨by rfl, ?_⟩) ?_ ?_
        rotate_left
        · intro w'
          go_simp
          with_reducible rfl
        rotate_left
        · simp only [Act.put, List.setIfInBounds_toArray, List.set_cons_zero, List.set_cons_succ, i64_w, i32_w]
          rfl
        refine take_ (i := 10) (N := some 50) (v := ?_) (a' := ?_) #[true, true, true, true, true, true, true, true, true, true, true, false, false] rfl rfl (by kernel_rfl) (fun _ _ _ h => h) (Or.inl ⟨by rfl, ?_⟩) hHeld ?_ ?_
        rotate_left
        · rintro w' ⟨s0, s1, s2, s3, s4, s5, s6, s7, s8⟩
          go_simp
          with_reducible rfl
        rotate_left
        · simp only [Act.put, List.setIfInBounds_toArray, List.set_cons_zero, List.set_cons_succ, i64_w, i32_w]
          rfl
        refine pure_ (i := 11) (N := some 51) (v := ?_) (a' := ?_) #[true, true, true, true, true, true, true, true, true, true, true, true, false] rfl rfl (by kernel_rfl) (fun _ _ _ h => h) (Or.inl ⟨by rfl, ?_⟩) ?_ ?_
        rotate_left
        · intro w'
          go_simp
          with_reducible rfl
        rotate_left
        · simp only [Act.put, List.setIfInBounds_toArray, List.set_cons_zero, List.set_cons_succ, i64_w, i32_w]
          rfl
        refine last_ (i := 12) (N := none) #[true, true, true, true, true, true, true, true, true, true, true, true, true] rfl rfl (by kernel_rfl) (by decide) (fun K hK => ?_)
        obtain ⟨w4, hrun4, hown4, hturn4⟩ := World.ownsMap.store (val := .int .i64 (L.length : Int)) (HF.out _ hHeld.2.2.2.2.2.2.2.2) ent_law Tryd.underlying99 hltm (ent_key hx.out) (plainElem_int Tryd.underlying3 hwl)
        unfold entV at hrun4
        refine skip_ (w1 := w4) (by rfl) rfl ?_ ?_
        · simp only [execOp]
          go_simp
        refine hK _ _ ?_
        refine done_ (by kernel_rfl) ?_
        have hg4 := hturn4.grown
        have n0_ := Aside0.mk (blk_grown (blk_drew (blk_drew BG.out)) hg4 (fun e => hgm (Option.some.inj e).symm))
        have n1_ := Aside0.mk (blk_grown (blk_drew (blk_drew BX.out)) hg4 (fun e => NXM.out (Option.some.inj e)))
        have n2_ := Aside0.mk (Kd.R_mono (ok' := fun k => k ≠ g ∧ k ≠ gm ∧ (F k ∨ wr.heap.size ≤ k)) (Kd.R_step (Kd.R_drew (Kd.R_drew HO.out)) (fun k hk hlt => hg4.block k hlt (fun e => hk.2.1 (Option.some.inj e)))) (fun k hk => ⟨hk.1, hk.2.1, .inl hk.2.2⟩))
        have n3_ := Aside0.mk (Kp.grown (F := F) (Kp.drew (Kp.drew (Kp.of_below HB.out))) hg4 (fun k hk _ => by cases hk; exact hm0))
        obtain ⟨es2, clock2, hbm, F2, hs2, hD2⟩ := hown4
        have n4_ := Aside0.mk hbm
        replace HF := Aside0.mk (fun (W : World) (h : W.heap[gm]? = some (.map es2 clock2)) => (⟨es2, clock2, h, F2, hs2, hD2⟩ : W.ownsMap Tryd.prog 50 (plainElem Tryd.prog 3) gm (L.length + 1) _))
        clear BG BX HO HB BM hHeld hg4 hturn4 hbm F2 hs2 hD2 hlook
        have BG := n0_
        have BX := n1_
        have HO := n2_
        have HB := n3_
        have BM := n4_
        clear n0_ n1_ n2_ n3_ n4_
        try go_wp2
        refine start_ (n := 13) (S := fun w' => w'.cell? ⟨gx, 0, none⟩ = some (.int .i64 x.f0) ∧ w'.cell? ⟨gx, 1, none⟩ = some (.string x.f1) ∧ w'.cell? ⟨gx, 2, none⟩ = some (.int .i64 x.f2) ∧ w'.cell? ⟨gx, 3, none⟩ = some (.int .i64 x.f3) ∧ w'.cell? ⟨gx, 4, none⟩ = some (.int .i64 x.f4) ∧ w'.cell? ⟨gx, 5, none⟩ = some (.int .i64 x.f5) ∧ w'.cell? ⟨g, 0, none⟩ = some (.slice Ao L.length co)) (ds := [12]) #[false, false, false, false, false, false, false, false, false, false, false, false, false] (by kernel_rfl) rfl rfl ⟨(blk_cell BX.out 0).trans rfl, (blk_cell BX.out 1).trans rfl, (blk_cell BX.out 2).trans rfl, (blk_cell BX.out 3).trans rfl, (blk_cell BX.out 4).trans rfl, (blk_cell BX.out 5).trans rfl, (blk_cell BG.out 0).trans rfl⟩ (fun hHeld => ?_)
        refine pure_ (i := 0) (N := some 52) (v := ?_) (a' := ?_) #[true, false, false, false, false, false, false, false, false, false, false, false, false] rfl rfl (by kernel_rfl) (fun _ _ _ h => h) (Or.inl ⟨by rfl, ?_⟩) ?_ ?_
        rotate_left
        · intro w'
          go_simp
          with_reducible rfl
        rotate_left
        · simp only [Act.put, List.setIfInBounds_toArray, List.set_cons_zero, List.set_cons_succ, i64_w, i32_w]
          rfl
        refine pure_ (i := 1) (N := some 53) (v := ?_) (a' := ?_) #[true, true, false, false, false, false, false, false, false, false, false, false, false] rfl rfl (by kernel_rfl) (fun _ _ _ h => h) (Or.inl ⟨by rfl, ?_⟩) ?_ ?_
        rotate_left
        · intro w'
          go_simp
          with_reducible rfl
        rotate_left
        · simp only [Act.put, List.setIfInBounds_toArray, List.set_cons_zero, List.set_cons_succ, i64_w, i32_w]
          rfl
        refine pure_ (i := 2) (N := some 54) (v := ?_) (a' := ?_) #[true, true, true, false, false, false, false, false, false, false, false, false, false] rfl rfl (by kernel_rfl) (fun _ _ _ h => h) (Or.inl ⟨by rfl, ?_⟩) ?_ ?_
        rotate_left
        · intro w'
          go_simp
          with_reducible rfl
        rotate_left
        · simp only [Act.put, List.setIfInBounds_toArray, List.set_cons_zero, List.set_cons_succ, i64_w, i32_w]
          rfl
        refine pure_ (i := 3) (N := some 55) (v := ?_) (a' := ?_) #[true, true, true, true, false, false, false, false, false, false, false, false, false] rfl rfl (by kernel_rfl) (fun _ _ _ h => h) (Or.inl ⟨by rfl, ?_⟩) ?_ ?_
        rotate_left
        · intro w'
          go_simp
          with_reducible rfl
        rotate_left
        · simp only [Act.put, List.setIfInBounds_toArray, List.set_cons_zero, List.set_cons_succ, i64_w, i32_w]
          rfl
        refine pure_ (i := 4) (N := some 56) (v := ?_) (a' := ?_) #[true, true, true, true, true, false, false, false, false, false, false, false, false] rfl rfl (by kernel_rfl) (fun _ _ _ h => h) (Or.inl ⟨by rfl, ?_⟩) ?_ ?_
        rotate_left
        · intro w'
          go_simp
          with_reducible rfl
        rotate_left
        · simp only [Act.put, List.setIfInBounds_toArray, List.set_cons_zero, List.set_cons_succ, i64_w, i32_w]
          rfl
        refine take_ (i := 5) (N := some 57) (v := ?_) (a' := ?_) #[true, true, true, true, true, true, false, false, false, false, false, false, false] rfl rfl (by kernel_rfl) (fun _ _ _ h => h) (Or.inl ⟨by rfl, ?_⟩) hHeld ?_ ?_
        rotate_left
        · rintro w' ⟨s0, s1, s2, s3, s4, s5, s6⟩
          go_simp
          with_reducible rfl
        rotate_left
        · simp only [Act.put, List.setIfInBounds_toArray, List.set_cons_zero, List.set_cons_succ, i64_w, i32_w]
          rfl
        refine take_ (i := 6) (N := some 58) (v := ?_) (a' := ?_) #[true, true, true, true, true, true, true, false, false, false, false, false, false] rfl rfl (by kernel_rfl) (fun _ _ _ h => h) (Or.inl ⟨by rfl, ?_⟩) hHeld ?_ ?_
        rotate_left
        · rintro w' ⟨s0, s1, s2, s3, s4, s5, s6⟩
          go_simp
          with_reducible rfl
        rotate_left
        · simp only [Act.put, List.setIfInBounds_toArray, List.set_cons_zero, List.set_cons_succ, i64_w, i32_w]
          rfl
        refine one_ (i := 7) (N := some 59) #[true, true, true, true, true, true, true, true, false, false, false, false, false] rfl rfl (by kernel_rfl) (by decide) (fun K hK => ?_)
        refine val_ (w1 := w4.drew.alloc (.cells #[.int .i64 x.f0, .string x.f1, .int .i64 x.f2, .int .i64 x.f3, .int .i64 x.f4, .int .i64 x.f5] 50)) (.slice (some ⟨w4.drew.heap.size, 0, none⟩) 1 1) (by rfl) rfl ?_ ?_
        · first | (go_simp; done) | (go_simp; rfl)
        refine hK.out _ _ ⟨(blk_cell (blk_alloc (blk_drew BX.out) _) 0).trans rfl, (blk_cell (blk_alloc (blk_drew BX.out) _) 1).trans rfl, (blk_cell (blk_alloc (blk_drew BX.out) _) 2).trans rfl, (blk_cell (blk_alloc (blk_drew BX.out) _) 3).trans rfl, (blk_cell (blk_alloc (blk_drew BX.out) _) 4).trans rfl, (blk_cell (blk_alloc (blk_drew BX.out) _) 5).trans rfl, (blk_cell (blk_alloc (blk_drew BG.out) _) 0).trans rfl⟩ (fun hHeld2 => ?_)
        have hm5 : ∀ k, w4.drew.heap.size ≤ k → k ≠ g ∧ k ≠ gm ∧ (F k ∨ wr.heap.size ≤ k) := fun k hk => by have h1 := blk_lt BG.out; have h2 := blk_lt BM.out; have h3 : w4.heap.size ≤ k := hk; have h4 := HB.out.size; exact ⟨by omega, by omega, .inr (by omega)⟩
        obtain ⟨v5, w5, hrun5, HO5, hg5, hb5⟩ := ent_append x (W := w4.drew) (base := 0) (L := L) (v := .slice Ao L.length co) (Nat.zero_le _) (Kd.R_drew HO.out) hm5 (by omega) 22
        obtain ⟨L2, hL2⟩ : ∃ L2 : List S50, L2 = L ++ [x] := ⟨_, rfl⟩
        rw [← hL2] at HO5
        replace hL2 := Aside0.mk hL2
        have BG5 := blk_grown (blk_drew BG.out) hg5 (fun e => (HO.out.1 g e.symm).1 rfl)
        have BX5 := blk_grown (blk_drew BX.out) hg5 NXO.out
        have BM5 := blk_grown (blk_drew BM.out) hg5 (fun e => (HO.out.1 gm e.symm).2.1 rfl)
        refine one_ (i := 8) (N := some 60) #[true, true, true, true, true, true, true, true, true, false, false, false, false] rfl rfl (by kernel_rfl) (by decide) (fun K2 hK2 => ?_)
        refine val_ (w1 := w5) v5 (by rfl) rfl ?_ ?_
        · exact app_run_ rfl rfl rfl hrun5
        refine hK2.out _ _ ⟨(blk_cell BX5 0).trans rfl, (blk_cell BX5 1).trans rfl, (blk_cell BX5 2).trans rfl, (blk_cell BX5 3).trans rfl, (blk_cell BX5 4).trans rfl, (blk_cell BX5 5).trans rfl, (blk_cell BG5 0).trans rfl⟩ (fun hHeld3 => ?_)
        refine pure_ (i := 9) (N := some 61) (v := ?_) (a' := ?_) #[true, true, true, true, true, true, true, true, true, true, false, false, false] rfl rfl (by kernel_rfl) (fun _ _ _ h => h) (Or.inl ⟨by rfl, ?_⟩) ?_ ?_
        rotate_left
        · intro w'
          go_simp
          with_reducible rfl
        rotate_left
        · simp only [Act.put, List.setIfInBounds_toArray, List.set_cons_zero, List.set_cons_succ, i64_w, i32_w]
          rfl
        refine pure_ (i := 10) (N := some 62) (v := ?_) (a' := ?_) #[true, true, true, true, true, true, true, true, true, true, true, false, false] rfl rfl (by kernel_rfl) (fun _ _ _ h => h) (Or.inl ⟨by rfl, ?_⟩) ?_ ?_
        rotate_left
        · intro w'
          go_simp
          with_reducible rfl
        rotate_left
        · simp only [Act.put, List.setIfInBounds_toArray, List.set_cons_zero, List.set_cons_succ, i64_w, i32_w]
          rfl
        refine pure_ (i := 11) (N := some 63) (v := ?_) (a' := ?_) #[true, true, true, true, true, true, true, true, true, true, true, true, false] rfl rfl (by kernel_rfl) (fun _ _ _ h => h) (Or.inl ⟨by rfl, ?_⟩) ?_ ?_
        rotate_left
        · intro w'
          go_simp
          with_reducible rfl
        rotate_left
        · simp only [Act.put, List.setIfInBounds_toArray, List.set_cons_zero, List.set_cons_succ, i64_w, i32_w]
          rfl
        have hs26 : w5.cell? ⟨g, 0, none⟩ = some (.slice Ao L.length co) := (blk_cell BG5 0).trans rfl
        have hfs26 := blk_frozen BG5 0
        obtain ⟨A5, c5, e5⟩ := Kd.R_slice HO5
        subst e5
        refine last_ (i := 12) (N := none) #[true, true, true, true, true, true, true, true, true, true, true, true, true] rfl rfl (by kernel_rfl) (by decide) (fun K3 hK3 => ?_)
        refine skip_ (w1 := w5.setCell ⟨g, 0, none⟩ (.slice A5 L2.length c5)) (by rfl) rfl ?_ ?_
        · first | (go_simp; done) | (go_simp; rfl)
        refine hK3 _ _ ?_
        refine done_ (by kernel_rfl) ?_
        have hkp : Kp F wr (w5.setCell ⟨g, 0, none⟩ (.slice A5 L2.length c5)) := Kp.setCell (p := ⟨g, 0, none⟩) (Kp.grown (Kp.drew HB.out) hg5 (fun k hk hlt => by rcases (HO.out.1 k hk).2.2 with h | h; exact h; omega)) hg0 _
        have HP6 : PB (w5.setCell ⟨g, 0, none⟩ (.slice A5 L2.length c5)) (fun k => (F k ∨ wr.heap.size ≤ k) ∧ k < (w5.setCell ⟨g, 0, none⟩ (.slice A5 L2.length c5)).heap.size) g L2 := by
          have BG6 := blk_put BG5 0 (.slice A5 L2.length c5) (cs' := #[.slice A5 L2.length c5, .map (some gm)]) rfl
          have BM6 := (Below.heap_setCell w5 ⟨g, 0, none⟩ (.slice A5 L2.length c5) gm hgm).trans BM5
          exact ⟨gm, A5, c5, _, es2, clock2, ⟨⟨.inl hg0, blk_lt BG6⟩, ⟨.inl hm0, blk_lt BM6⟩, hgm⟩, by rw [hL2.out]; exact fstD_put HD.out hx.out hf, fun W h => by rw [hL2.out, List.length_append]; exact HF.out W h, BG6, BM6,
            Kd.R_mono (Kd.R_bound (Kd.R_far (p := ⟨g, 0, none⟩) HO5 (fun k hk => hk.1) _)) (fun k hk => ⟨hk.1.1, hk.1.2.1, hk.1.2.2, hk.2.2.1⟩), fun k hk => hk.2⟩
        have HS6 : Stp (fun _ => False) w (fun k => (F k ∨ wr.heap.size ≤ k) ∧ k < (w5.setCell ⟨g, 0, none⟩ (.slice A5 L2.length c5)).heap.size) (w5.setCell ⟨g, 0, none⟩ (.slice A5 L2.length c5)) := HS.out.trans ⟨fun k hk => hk.1, hkp⟩
        have htk : l.take (i + 1) = L2 := by rw [List.take_add_one, hy.out, hLt.out, hL2.out]; rfl
        replace htk := Aside0.mk htk
        have e1 : wrap64 ((i : Int) + 1) = ((i + 1 : Nat) : Int) := by unfold wrap64; omega
        replace e1 := Aside0.mk e1
        replace HP6 := Aside0.mk HP6
        replace HS6 := Aside0.mk HS6
        clear hHeld hHeld2 hHeld3 hs26 hfs26 BG5 BX5 BM5 HO5 hkp hf
        try go_wp2
        go_roundg (gk - 1)
        case measure => have := hi.out; omega
        case rel =>
          exact ⟨i + 1, _, by first | rfl | (rw [← e1.out]), ⟨by have := hi.out; omega⟩, (by rw [htk.out]; exact HP6), HS6⟩
    · have b1 : decide ((i : Int) < (l.length : Int)) = false := decide_eq_false (by omega)
      have b2 : decide (i < l.length) = false := decide_eq_false hlt
      have e : l.take i = l := List.take_of_length_le (by omega)
      rw [e] at HP
      go_wp2
      go_ret
      exact ⟨g, F, rfl, HP.out, HS.out⟩
end Go.Proofs.YtldejfkplnejjaaDoor.P
namespace Go.Proofs.YtldejfkplnejjaaDoor.P
open Go.Maps Go.WideMaps Go.MapKept
open Go.RowKit Go.Proofs.YtldejfkplnejjaaDoorW.PrintWords Go.Proofs.YtldejfkplnejjaaDoorW.PrintLast Go.Proofs.YtldejfkplnejjaaDoorW.PrintMore
set_option linter.unusedVariables false
set_option linter.unusedSimpArgs false
theorem pool_New.nil (w : World) : Calls Tryd.prog 26 #[.slice none 0 0] w fun e_ w' => ∃ g F', e_ = .returned (.pointer (some ⟨g, 0, none⟩)) ∧ PB w' F' g [] ∧ Stp (fun _ => False) w F' w' :=
  pool_New.good 3 none 0 [] 0 w (fun x hx => by cases hx) (by simp) (Kd.R_reads' (Kd.R_nil k50 50 w 0 (fun _ => True))).2.2 (Nat.le_refl _) (by decide +kernel)
theorem kn_A : desc_Name.f 9 (⟨#[65]⟩ : ByteArray) = some true := by decide +kernel
theorem kn_x : desc_Name.f 9 (⟨#[120]⟩ : ByteArray) = some true := by decide +kernel
theorem kn_T : desc_TypeText.f 9 0 (⟨#[]⟩ : ByteArray) = some (⟨#[73]⟩, 0) := by decide +kernel
theorem kn_1 : clI true ⟨#[65]⟩ [] = 1 ∧ clE true ⟨#[65]⟩ [] = 0 ∧ (clL true ⟨#[65]⟩ []).length ≤ 4096 := by decide +kernel
theorem kn_2 : fdI true true ⟨#[65]⟩ ⟨#[120]⟩ ⟨#[73]⟩ 0 (clL true ⟨#[65]⟩ []) = 4 ∧ fdE true true ⟨#[65]⟩ ⟨#[120]⟩ ⟨#[73]⟩ 0 (clL true ⟨#[65]⟩ []) = 0 ∧ (fdL true true ⟨#[65]⟩ ⟨#[120]⟩ ⟨#[73]⟩ 0 (clL true ⟨#[65]⟩ [])).length = 5 := by decide +kernel
theorem b1_len (b : UInt8) : (⟨#[b]⟩ : ByteArray).size ≤ maxLen := by show 1 ≤ maxLen; unfold maxLen; omega
set_option maxHeartbeats 8000000 in
set_option maxRecDepth 100000 in
theorem known.frame (w : World) : Calls Tryd.prog 14 #[] w fun e w' => e = .returned (.bool true) ∧ Below w.heap.size w w' := by
  have c1 := Aside0.mk (fun (F1 : Nat → Prop) (g : Nat) (w1 : World) (h : PB w1 F1 g []) => builder_Class.frame 9 (⟨#[65]⟩ : ByteArray) (b1_len _) true kn_A [] (by simp) F1 g w1 h)
  rw [kn_1.1, kn_1.2.1] at c1
  have c2 := Aside0.mk (fun (F1 : Nat → Prop) (g : Nat) (w1 : World) (h : PB w1 F1 g (clL true (⟨#[65]⟩ : ByteArray) [])) => builder_Field.frame 9 (⟨#[65]⟩ : ByteArray) (⟨#[120]⟩ : ByteArray) 0 ⟨#[]⟩ ⟨#[73]⟩ 0 true true (b1_len _) (b1_len _) (b1_len _) kn_A kn_x kn_T _ kn_1.2.2 F1 g w1 h)
  rw [kn_2.1, kn_2.2.1] at c2
  obtain ⟨L2, hL2⟩ : ∃ L2 : List S50, L2 = fdL true true (⟨#[65]⟩ : ByteArray) (⟨#[120]⟩ : ByteArray) ⟨#[73]⟩ 0 (clL true (⟨#[65]⟩ : ByteArray) []) := ⟨_, rfl⟩
  have hn := kn_2.2.2
  rw [← hL2] at c2 hn
  generalize clL true (⟨#[65]⟩ : ByteArray) [] = L1 at c1 c2 hL2
  have c3 := Aside0.mk (fun (F1 : Nat → Prop) (g : Nat) (w1 : World) (h : PB w1 F1 g L2) => builder_Pool.frame L2 (by omega) F1 g w1 h)
  clear hL2
  go_enter Tryd.func14, Tryd.ntmps14
  go_wp2_with (first | ((with_reducible refine gt_ 26 ?_); (try (refine gate_guard (by rfl) ?_; dsimp only)); refine gc_ 6 Tryd.func26 #[.slice none 0 0] ?_; refine (pool_New.nil w).mono ?_; rintro e w1 ⟨g, F1, rfl, hp, hS⟩; refine ⟨_, rfl, ?_⟩; replace hp := Aside0.mk hp; replace hS := Aside0.mk hS) | ((with_reducible refine gt_ 37 ?_); (try (refine gate_guard (by rfl) ?_; dsimp only)); refine gc_ 11 Tryd.func37 #[.pointer (some ⟨g, 0, none⟩), .string (⟨#[65]⟩ : ByteArray)] ?_; refine (c1.out _ _ _ hp.out).mono ?_; rintro e w2 ⟨F2, rfl, hp2, hs2⟩; refine ⟨_, rfl, ?_⟩; have n0_ := Aside0.mk hp2; have n1_ := Aside0.mk (hS.out.trans hs2); clear hp hS hp2 hs2; have hp := n0_; have hS := n1_; clear n0_ n1_) | ((with_reducible refine gt_ 38 ?_); (try (refine gate_guard (by rfl) ?_; dsimp only)); refine gc_ 17 Tryd.func38 #[.pointer (some ⟨g, 0, none⟩), .string (⟨#[65]⟩ : ByteArray), .string (⟨#[120]⟩ : ByteArray), .agg #[.int .i64 0, .string (⟨#[]⟩ : ByteArray)]] ?_; refine (c2.out _ _ _ hp.out).mono ?_; rintro e w3 ⟨F3, rfl, hp2, hs2⟩; refine ⟨_, rfl, ?_⟩; have n0_ := Aside0.mk hp2; have n1_ := Aside0.mk (hS.out.trans hs2); clear hp hS hp2 hs2; have hp := n0_; have hS := n1_; clear n0_ n1_) | ((with_reducible refine gt_ 29 ?_); (try (refine gate_guard (by rfl) ?_; dsimp only)); refine gc_ 36 Tryd.func29 #[.pointer (some ⟨g, 0, none⟩)] ?_; refine (c3.out _ _ _ hp.out).mono ?_; rintro e w4 ⟨v, rfl, ho, hb⟩; refine ⟨_, rfl, ?_⟩; replace hb := Aside0.mk hb; obtain ⟨A1, k1, rfl⟩ := Kd.R_slice ho; clear ho; have q5 : ((L2.length : Int) == 5) = true := by rw [hn]; rfl))
  go_ret
  exact ⟨by first | rfl | simp [hn], (hS.out.step hb.out).kp.below (fun _ h => h.elim) (Nat.le_refl _)⟩
end Go.Proofs.YtldejfkplnejjaaDoor.P
