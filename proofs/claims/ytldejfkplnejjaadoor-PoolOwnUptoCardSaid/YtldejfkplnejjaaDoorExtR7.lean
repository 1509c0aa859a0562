/- The reference's builder: its list behind a pointer; an elder list that was kept is still what it was. The reference's builder: what each call tells, and what it has behind it. The reference's builder: classes, types, fields. The reference's builder: types. The reference's builder: fields, methods. The reference's builder: methods. The reference's builder: a new one. -/
import Derived.Test.YtldejfkplnejjaaDoorExtB3
import Derived.Test.YtldejfkplnejjaaDoorP2
import Derived.ArgAppend
import Derived.Test.YtldejfkplnejjaaDoorExtN
import Derived.Test.YtldejfkplnejjaaDoorP6
import Derived.Test.YtldejfkplnejjaaDoorP7
namespace Go.Proofs.YtldejfkplnejjaaDoor.P
open Go.RowKit Go.Proofs.YtldejfkplnejjaaDoorW.PrintWords Go.Proofs.YtldejfkplnejjaaDoorW.PrintLast Go.Proofs.YtldejfkplnejjaaDoorW.PrintMore
open Go.Maps Go.WideMaps Go.MapKept
set_option linter.unusedVariables false
set_option linter.unusedSimpArgs false
theorem ent_append2 {W : World} {ok : Nat → Prop} {A : Option Addr} {c : Nat} {L : List S50} (x : S50) (HO : Kd.R k50 50 W 0 ok (.slice A L.length c) L) (hfresh : ∀ k, W.heap.size ≤ k → ok k) (hl : (L.length + 1) * 56 ≤ 140737488355328) (ty : TypeId) :
    ∃ A1 c1 w1, (Builtin.append_ #[22, 22] ty #[.slice A L.length c, .slice (some ⟨W.heap.size, 0, none⟩) 1 1]).run Tryd.prog (W.alloc (.cells #[.int .i64 x.f0, .string x.f1, .int .i64 x.f2, .int .i64 x.f3, .int .i64 x.f4, .int .i64 x.f5] 50)) = .ok (.slice A1 (L ++ [x]).length c1) w1 ∧ Kd.R k50 50 w1 0 ok (.slice A1 (L ++ [x]).length c1) (L ++ [x]) ∧ W.grownBy w1 (Value.slice A L.length c).ownBlock ∧ (W.grownBy w1 none ∨ (A1 = A ∧ c1 = c)) := by
  obtain ⟨v1, w1, hrun, HR, hg, _⟩ := ent_append x (Nat.zero_le _) HO hfresh hl ty
  obtain ⟨A1, c1, rfl⟩ := Kd.R_slice HR
  refine ⟨A1, c1, w1, hrun, HR, hg, ?_⟩
  obtain ⟨h0, inner, ⟨hin, hown⟩, hr⟩ := HO
  have hk6 : k50.sz = 6 := rfl
  rw [hk6] at hin hown
  rcases hown with ⟨hv, _⟩ | ⟨g, cap, cur, hv, _, hb, hle, hmax, hsz, htake⟩
  · obtain ⟨rfl, _⟩ : A = none ∧ L = [] ∧ c = 0 := by simpa using hv
    exact .inl hg
  · obtain ⟨rfl, rfl⟩ : A = some ⟨g, 0, none⟩ ∧ c = cap := by simpa using hv
    obtain ⟨i0, hi, hzz⟩ := Option.map_eq_some_iff.1 ent_info
    simp only [Prod.mk.injEq] at hzz
    obtain ⟨hz0, hz1, hz2⟩ := hzz
    have hb2 := blk_alloc hb (.cells #[.int .i64 x.f0, .string x.f1, .int .i64 x.f2, .int .i64 x.f3, .int .i64 x.f4, .int .i64 x.f5] 50)
    have hnews : ∀ (j : Nat) (u : Value), [Value.int .i64 x.f0, .string x.f1, .int .i64 x.f2, .int .i64 x.f3, .int .i64 x.f4, .int .i64 x.f5][j]? = some u → (W.alloc (.cells #[.int .i64 x.f0, .string x.f1, .int .i64 x.f2, .int .i64 x.f3, .int .i64 x.f4, .int .i64 x.f5] 50)).cell? ((⟨W.heap.size, 0, none⟩ : Addr).add j) = some u := by
      simpa using World.news_of_block (cs := #[.int .i64 x.f0, .string x.f1, .int .i64 x.f2, .int .i64 x.f3, .int .i64 x.f4, .int .i64 x.f5]) (t := 50) (fr := (0, 0)) (heap_alloc_new W (.cells #[.int .i64 x.f0, .string x.f1, .int .i64 x.f2, .int .i64 x.f3, .int .i64 x.f4, .int .i64 x.f5] 50))
    by_cases hroom : L.length + 1 ≤ c
    · right
      have hrun2 := run_append_room_cells (P := Tryd.prog) (W.alloc (.cells #[.int .i64 x.f0, .string x.f1, .int .i64 x.f2, .int .i64 x.f3, .int .i64 x.f4, .int .i64 x.f5] 50)) 22 ty 50 i0 Tryd.underlying22 hi g 0 L.length c ⟨W.heap.size, 0, none⟩ 1 1 [.int .i64 x.f0, .string x.f1, .int .i64 x.f2, .int .i64 x.f3, .int .i64 x.f4, .int .i64 x.f5] (by rw [hz1]; rfl) hnews (by simp [Value.oneCell']) hroom
        (fun j hj => by
          rw [blk_cell hb2, hz1]
          have hlt : 0 + L.length * 6 + j < cur.size := by simp only [List.length_cons, List.length_nil] at hj; omega
          rw [Array.getElem?_eq_getElem hlt]
          rfl) (fun j hj => blk_frozen hb2 _)
      have := hrun.symm.trans hrun2
      simp only [Result.ok.injEq, Value.slice.injEq] at this
      exact ⟨this.1.1, this.1.2.2⟩
    · left
      obtain ⟨v', w', hrun2, _, hg2⟩ := run_append_arg_grows (P := Tryd.prog) (W.alloc (.cells #[.int .i64 x.f0, .string x.f1, .int .i64 x.f2, .int .i64 x.f3, .int .i64 x.f4, .int .i64 x.f5] 50)) 22 ty 50 i0 _ 6 56 Tryd.underlying22 hi hz0 hz1 hz2 rfl (by omega) ⟨g, 0, none⟩ L.length c inner hin
        (fun j u hj => by
          rw [add_plain, blk_cell hb2]
          rw [← htake, List.getElem?_take] at hj
          split at hj
          · simpa using hj
          · cases hj) ⟨W.heap.size, 0, none⟩ 1 1 [.int .i64 x.f0, .string x.f1, .int .i64 x.f2, .int .i64 x.f3, .int .i64 x.f4, .int .i64 x.f5] rfl hnews (by omega) (by simp only [maxLen]; omega) hl
      have := hrun.symm.trans hrun2
      simp only [Result.ok.injEq] at this
      rw [this.2]
      exact World.grownBy.trans (World.grownBy_alloc W (.cells #[.int .i64 x.f0, .string x.f1, .int .i64 x.f2, .int .i64 x.f3, .int .i64 x.f4, .int .i64 x.f5] 50) none) hg2
def RB (w : World) (F : Nat → Prop) (g : Nat) (L : List S50) (A : Option Addr) (c : Nat) : Prop :=
  F g ∧ w.heap[g]? = some (.cells #[.slice A L.length c] 61 (0, 0)) ∧ Kd.R k50 50 w 0 (fun k => k ≠ g ∧ F k) (.slice A L.length c) L ∧ ∀ k, F k → k < w.heap.size
def SV (w : World) (F : Nat → Prop) (g : Nat) (A0 : Option Addr) (c0 : Nat) (L0 : List S50) : Prop := Kd.R k50 50 w 0 (fun k => k ≠ g ∧ F k) (.slice A0 L0.length c0) L0
theorem RB_kept {w w' : World} {F : Nat → Prop} {g : Nat} {L : List S50} {A : Option Addr} {c : Nat} (h : RB w F g L A c) (hs : w.heap.size ≤ w'.heap.size) (hk : ∀ k, F k → w'.heap[k]? = w.heap[k]?) : RB w' F g L A c := by
  obtain ⟨h1, BG, HO, HL⟩ := h
  exact ⟨h1, (hk g h1).trans BG, Kd.R_step HO (fun k ho _ => hk k ho.2), fun k hf => Nat.lt_of_lt_of_le (HL k hf) hs⟩
theorem RB_below {w w' : World} {F : Nat → Prop} {g : Nat} {L : List S50} {A : Option Addr} {c : Nat} (h : RB w F g L A c) (hb : Below w.heap.size w w') : RB w' F g L A c :=
  RB_kept h hb.size (fun k hf => hb.block k (h.2.2.2 k hf))
theorem RB_apart {w w' : World} {F G : Nat → Prop} {g : Nat} {L : List S50} {A : Option Addr} {c : Nat} (h : RB w F g L A c) (hk : Kp G w w') (hd : ∀ k, F k → ¬ G k) : RB w' F g L A c :=
  RB_kept h hk.size (fun k hf => hk.block k (h.2.2.2 k hf) (hd k hf))
theorem SV_below {w w' : World} {F : Nat → Prop} {g : Nat} {L : List S50} {A : Option Addr} {c : Nat} (h : SV w F g A c L) (hb : Below w.heap.size w w') : SV w' F g A c L := Kd.R_below h hb
theorem SV_append {W w1 : World} {ok : Nat → Prop} {A A1 A0 : Option Addr} {c c1 c0 : Nat} {L L0 : List S50} {x : S50} (h0 : Kd.R k50 50 W 0 ok (.slice A0 L0.length c0) L0) (hp : L0 <+: L) (HO : Kd.R k50 50 W 0 ok (.slice A L.length c) L) (HR : Kd.R k50 50 w1 0 ok (.slice A1 (L ++ [x]).length c1) (L ++ [x]))
    (hg : W.grownBy w1 (Value.slice A L.length c).ownBlock) (hd : W.grownBy w1 none ∨ (A1 = A ∧ c1 = c)) : Kd.R k50 50 w1 0 ok (.slice A0 L0.length c0) L0 := by
  rcases hd with hd | ⟨rfl, rfl⟩
  · exact Kd.R_step h0 (fun k _ hlt => hd.block k hlt (by simp))
  · by_cases he : A0 = A1
    · subst he
      have hcap : c0 = c1 := by
        obtain ⟨_, i1, ⟨_, o1⟩, _⟩ := h0
        obtain ⟨_, i2, ⟨_, o2⟩, _⟩ := HO
        have hk6 : k50.sz = 6 := rfl
        rw [hk6] at o1 o2
        rcases o1 with ⟨e1, _⟩ | ⟨g1, k1, u1, e1, _, b1, _, _, s1, _⟩ <;> rcases o2 with ⟨e2, _⟩ | ⟨g2, k2, u2, e2, _, b2, _, _, s2, _⟩
        · simp at e1 e2; omega
        · simp at e1 e2; rw [e1.1] at e2; simp at e2
        · simp at e1 e2; rw [e2.1] at e1; simp at e1
        · simp at e1 e2
          obtain ⟨rfl, rfl⟩ := e1
          obtain ⟨e3, rfl⟩ := e2
          have e4 : g1 = g2 := by simpa using e3
          subst e4
          rw [b1] at b2
          simp at b2
          subst b2
          omega
      subst hcap
      have ht := Kd.R_take (m := L0.length) HR (by have := hp.length_le; simp; omega)
      obtain ⟨r, rfl⟩ := hp
      rw [List.append_assoc, List.take_left'] at ht
      · exact ht
      · rfl
    · refine Kd.R_grown2 h0 rfl hg (fun k hk hk0 => he ?_)
      obtain ⟨_, i1, ⟨_, o1⟩, _⟩ := h0
      obtain ⟨_, i2, ⟨_, o2⟩, _⟩ := HO
      rcases o1 with ⟨e1, _⟩ | ⟨g1, k1, u1, e1, _, b1, _, _, s1, _⟩ <;> rcases o2 with ⟨e2, _⟩ | ⟨g2, k2, u2, e2, _, b2, _, _, s2, _⟩
      · rw [e2] at hk; cases hk
      · rw [e1] at hk0; cases hk0
      · rw [e2] at hk; cases hk
      · rw [e1] at hk0
        rw [e2] at hk
        simp [Value.ownBlock] at hk hk0 e1 e2
        rw [e1.1, e2.1, hk, hk0]
theorem fstI_first {x : S50} {L : List S50} {i : Nat} (h : L[i]? = some x) (hno : ∀ j y, j < i → L[j]? = some y → y ≠ x) : fstI x L = some i := by
  unfold fstI
  rw [List.findIdx?_eq_some_iff_getElem]
  obtain ⟨hlt, he⟩ := List.getElem?_eq_some_iff.1 h
  refine ⟨hlt, by rw [he]; exact eqE_iff.2 rfl, fun j hj => ?_⟩
  have := hno j L[j] hj (List.getElem?_eq_getElem (by omega))
  intro h'
  exact this (eqE_iff.1 h')
attribute [local go_sem high] eqA50
set_option maxHeartbeats 8000000 in
set_option maxRecDepth 100000 in
theorem rput.frame (x : S50) (hx : okE x) (L L0 : List S50) (hL : L.length ≤ 1000000000000) (hpre : L0 <+: L) (F : Nat → Prop) (g : Nat) (A A0 : Option Addr) (c c0 : Nat) (w : World) (h : RB w F g L A c) (hv : SV w F g A0 c0 L0) :
    Calls Tryd.prog 90 #[.pointer (some ⟨g, 0, none⟩), .agg #[.int .i64 x.f0, .string x.f1, .int .i64 x.f2, .int .i64 x.f3, .int .i64 x.f4, .int .i64 x.f5]] w fun e w' => ∃ F' A' c', e = .returned (.int .i64 (putI x L)) ∧ RB w' F' g (putL x L) A' c' ∧ SV w' F' g A0 c0 L0 ∧ Stp F w F' w' := by
  have hA : 0 < L.length → ∃ ga, A = some ⟨ga, 0, none⟩ ∧ F ga := fun hp => by
    obtain ⟨ga, cap, hAo, _, _, _⟩ := Kd.R_form h.2.2.1 hp
    obtain ⟨rfl, _⟩ : A = some ⟨ga, 0, none⟩ ∧ c = cap := by simpa using hAo
    exact ⟨ga, rfl, (h.2.2.1.1 ga rfl).2⟩
  have HL := Aside0.mk h.2.2.2
  replace hA := Aside0.mk hA
  replace h := Aside0.mk h
  replace hv := Aside0.mk hv
  replace hx := Aside0.mk hx
  replace hpre := Aside0.mk hpre
  go_enter Tryd.func90, Tryd.ntmps90
  go_wp2_with (first | ((with_reducible refine d_ 3 ?_); refine X_ 3 #[.int .i64 x.f0, .string x.f1, .int .i64 x.f2, .int .i64 x.f3, .int .i64 x.f4, .int .i64 x.f5] 50 ?_; intro gb hg w2 hbox hb; have GX := Aside0.mk (Nat.le_of_eq hg.symm : w.heap.size ≤ gb); have BX := Aside0.mk hbox; have HP := Aside0.mk (RB_below h.out hb); have HV := Aside0.mk (SV_below hv.out hb); have HB := Aside0.mk (Kp.of_below (F := F) hb); clear hbox hb hg))
  go_loopg [5] L.length (fun kq v5 w' => ∃ i : Nat, v5 = .int .i64 (i : Int) ∧ Aside0 (i + kq = L.length) ∧ Aside0 (∀ j y, j < i → L[j]? = some y → y ≠ x) ∧ Aside0 (w'.heap[gb]? = some (.cells #[.int .i64 x.f0, .string x.f1, .int .i64 x.f2, .int .i64 x.f3, .int .i64 x.f4, .int .i64 x.f5] 50 (0, 0))) ∧ Aside0 (RB w' F g L A c) ∧ Aside0 (SV w' F g A0 c0 L0) ∧ Aside0 (Kp F w w'))
  case atStart => exact ⟨0, rfl, ⟨by omega⟩, ⟨fun j y hj => by omega⟩, BX, HP, HV, HB⟩
  case round =>
    clear BX HP HV HB
    obtain ⟨i, rfl, hi, hno, BX, HP, HV, HB⟩ := hrel
    have BG := Aside0.mk HP.out.2.1
    have hcg : wr.cell? ⟨g, 0, none⟩ = some (.slice A L.length c) := (blk_cell BG.out 0).trans rfl
    have hfg := blk_frozen BG.out 0
    by_cases hlt : i < L.length
    · have b1 : decide ((i : Int) < (L.length : Int)) = true := decide_eq_true (by omega)
      have b2 : decide (i < L.length) = true := decide_eq_true hlt
      obtain ⟨ga, eA, hFa⟩ := hA.out (by omega)
      subst eA
      obtain ⟨y, hy⟩ : ∃ y, L[i]? = some y := ⟨L[i], List.getElem?_eq_getElem hlt⟩
      obtain ⟨hx0, hx1, hx2, hx3, hx4, hx5⟩ := cells_row (Kd.R_reads' HP.out.2.2.1).2.2 (p := i) (q := i * 6) (x := y) hlt hy rfl
      replace hy := Aside0.mk hy
      go_wp2
      refine start_ (n := 9) (S := fun w' => w'.cell? ⟨gb, 0, none⟩ = some (.int .i64 x.f0) ∧ w'.cell? ⟨gb, 1, none⟩ = some (.string x.f1) ∧ w'.cell? ⟨gb, 2, none⟩ = some (.int .i64 x.f2) ∧ w'.cell? ⟨gb, 3, none⟩ = some (.int .i64 x.f3) ∧ w'.cell? ⟨gb, 4, none⟩ = some (.int .i64 x.f4) ∧ w'.cell? ⟨gb, 5, none⟩ = some (.int .i64 x.f5) ∧ w'.cell? ⟨g, 0, none⟩ = some (.slice (some ⟨ga, 0, none⟩) L.length c) ∧ w'.cell? ⟨ga, i * 6, none⟩ = some (.int .i64 y.f0) ∧ w'.cell? ⟨ga, i * 6 + 1, none⟩ = some (.string y.f1) ∧ w'.cell? ⟨ga, i * 6 + 2, none⟩ = some (.int .i64 y.f2) ∧ w'.cell? ⟨ga, i * 6 + 3, none⟩ = some (.int .i64 y.f3) ∧ w'.cell? ⟨ga, i * 6 + 4, none⟩ = some (.int .i64 y.f4) ∧ w'.cell? ⟨ga, i * 6 + 5, none⟩ = some (.int .i64 y.f5)) (ds := []) (bb 9 0) (by kernel_rfl) rfl (by kernel_rfl) ⟨(blk_cell BX.out 0).trans rfl, (blk_cell BX.out 1).trans rfl, (blk_cell BX.out 2).trans rfl, (blk_cell BX.out 3).trans rfl, (blk_cell BX.out 4).trans rfl, (blk_cell BX.out 5).trans rfl, (blk_cell BG.out 0).trans rfl, hx0, hx1, hx2, hx3, hx4, hx5⟩ (fun hHeld => ?_)
      refine u_ 0 15 (bb 9 1) ?_
      refine u_ 1 16 (bb 9 3) ?_
      refine u_ 2 17 (bb 9 7) ?_
      refine t_ 3 18 (bb 9 15) ?_
      refine u_ 4 19 (bb 9 31) ?_
      refine u_ 5 20 (bb 9 63) ?_
      refine t_ 6 21 (bb 9 127) ?_
      refine t_ 7 22 (bb 9 255) ?_
      refine u_ 8 23 (bb 9 511) ?_
      refine done_ (by kernel_rfl) ?_
      by_cases hxy : y = x
      · have he : (y.f0 == x.f0 && (y.f1.toList == x.f1.toList && (y.f2 == x.f2 && (y.f3 == x.f3 && (y.f4 == x.f4 && y.f5 == x.f5))))) = true := by subst hxy; simp
        replace hxy := Aside0.mk hxy
        clear hHeld hx0 hx1 hx2 hx3 hx4 hx5
        rw [he]
        try go_wp2
        go_ret
        have hf : fstI x L = some i := fstI_first (hxy.out ▸ hy.out) hno.out
        have e1 : putI x L = (i : Int) := by simp [putI, hf]
        have e2 : putL x L = L := by simp [putL, hf]
        rw [e1, e2]
        have hbd : Below wr.heap.size wr wr.drew := below_drew (Below.refl _ _)
        exact ⟨F, _, _, rfl, RB_below HP.out hbd, SV_below HV.out hbd, ⟨fun k hk => .inl hk, HB.out.step hbd⟩⟩
      · have he : (y.f0 == x.f0 && (y.f1.toList == x.f1.toList && (y.f2 == x.f2 && (y.f3 == x.f3 && (y.f4 == x.f4 && y.f5 == x.f5))))) = false := by
          rw [← Bool.not_eq_true]
          intro h'
          exact hxy (eqE_iff.1 (by simpa only [eqE, Bool.and_assoc] using h'))
        replace hxy := Aside0.mk hxy
        have e1 : wrap64 ((i : Int) + 1) = ((i + 1 : Nat) : Int) := by unfold wrap64; omega
        replace e1 := Aside0.mk e1
        clear hHeld hx0 hx1 hx2 hx3 hx4 hx5
        rw [he]
        try go_wp2
        go_roundg (gk - 1)
        case measure => have := hi.out; omega
        case rel =>
          have hbd : Below wr.heap.size wr wr.drew := below_drew (Below.refl _ _)
          exact ⟨i + 1, by first | rfl | (rw [← e1.out]), ⟨by have := hi.out; omega⟩, ⟨fun j z hj hz => by
            by_cases hji : j = i
            · subst hji
              rw [hy.out] at hz
              cases hz
              exact hxy.out
            · exact hno.out j z (by omega) hz⟩, ⟨blk_drew BX.out⟩, ⟨RB_below HP.out hbd⟩, ⟨SV_below HV.out hbd⟩, ⟨HB.out.step hbd⟩⟩
    · obtain rfl : i = L.length := by have := hi.out; omega
      have b1 : decide ((L.length : Int) < (L.length : Int)) = false := decide_eq_false (by omega)
      have b2 : decide (L.length < L.length) = false := decide_eq_false (by omega)
      have hf : fstI x L = none := fstI_none (fun hm => by
        obtain ⟨j, hj⟩ := List.getElem?_of_mem hm
        exact hno.out j x (List.getElem?_eq_some_iff.1 hj).1 hj rfl)
      have hres : putI x L = (L.length : Int) ∧ putL x L = L ++ [x] := by simp [putI, putL, hf]
      replace hres := Aside0.mk hres
      clear hf
      go_wp2
      refine start_ (n := 11) (S := fun w' => w'.cell? ⟨gb, 0, none⟩ = some (.int .i64 x.f0) ∧ w'.cell? ⟨gb, 1, none⟩ = some (.string x.f1) ∧ w'.cell? ⟨gb, 2, none⟩ = some (.int .i64 x.f2) ∧ w'.cell? ⟨gb, 3, none⟩ = some (.int .i64 x.f3) ∧ w'.cell? ⟨gb, 4, none⟩ = some (.int .i64 x.f4) ∧ w'.cell? ⟨gb, 5, none⟩ = some (.int .i64 x.f5) ∧ w'.cell? ⟨g, 0, none⟩ = some (.slice A L.length c)) (ds := [10]) (bb 11 0) (by kernel_rfl) rfl (by kernel_rfl) ⟨(blk_cell BX.out 0).trans rfl, (blk_cell BX.out 1).trans rfl, (blk_cell BX.out 2).trans rfl, (blk_cell BX.out 3).trans rfl, (blk_cell BX.out 4).trans rfl, (blk_cell BX.out 5).trans rfl, (blk_cell BG.out 0).trans rfl⟩ (fun hHeld => ?_)
      refine u_ 0 25 (bb 11 1) ?_
      refine u_ 1 26 (bb 11 3) ?_
      refine u_ 2 27 (bb 11 7) ?_
      refine u_ 3 28 (bb 11 15) ?_
      refine t_ 4 29 (bb 11 31) ?_
      refine t_ 5 30 (bb 11 63) ?_
      refine one_ (i := 6) (N := some 31) (bb 11 127) rfl rfl (by kernel_rfl) (by decide) (fun K hK => ?_)
      refine val_ (w1 := wr.drew.alloc (.cells #[.int .i64 x.f0, .string x.f1, .int .i64 x.f2, .int .i64 x.f3, .int .i64 x.f4, .int .i64 x.f5] 50)) (.slice (some ⟨wr.drew.heap.size, 0, none⟩) 1 1) (by rfl) rfl ?_ ?_
      · first | (go_simp; done) | (go_simp; rfl)
      refine hK.out _ _ ⟨(blk_cell (blk_alloc (blk_drew BX.out) _) 0).trans rfl, (blk_cell (blk_alloc (blk_drew BX.out) _) 1).trans rfl, (blk_cell (blk_alloc (blk_drew BX.out) _) 2).trans rfl, (blk_cell (blk_alloc (blk_drew BX.out) _) 3).trans rfl, (blk_cell (blk_alloc (blk_drew BX.out) _) 4).trans rfl, (blk_cell (blk_alloc (blk_drew BX.out) _) 5).trans rfl, (blk_cell (blk_alloc (blk_drew BG.out) _) 0).trans rfl⟩ (fun hHeld2 => ?_)
      have HOm : Kd.R k50 50 wr.drew 0 (fun k => k ≠ g ∧ (F k ∨ w.heap.size ≤ k)) (.slice A L.length c) L := Kd.R_drew (Kd.R_mono HP.out.2.2.1 (fun k hk => ⟨hk.1, .inl hk.2⟩))
      have HVm : Kd.R k50 50 wr.drew 0 (fun k => k ≠ g ∧ (F k ∨ w.heap.size ≤ k)) (.slice A0 L0.length c0) L0 := Kd.R_drew (Kd.R_mono HV.out (fun k hk => ⟨hk.1, .inl hk.2⟩))
      have hsz := HB.out.size
      obtain ⟨A5, c5, w5, hrun5, HO5, hg5, hd5⟩ := ent_append2 x HOm (fun k hk => by have h1 := blk_lt BG.out; have h3 : wr.heap.size ≤ k := hk; exact ⟨by omega, .inr (by omega)⟩) (by omega) 22
      have HV5 := SV_append HVm hpre.out HOm HO5 hg5 hd5
      obtain ⟨L2, hL2⟩ : ∃ L2 : List S50, L2 = L ++ [x] := ⟨_, rfl⟩
      rw [← hL2] at HO5 hrun5
      replace hL2 := Aside0.mk hL2
      have BG5 := blk_grown (blk_drew BG.out) hg5 (fun e => (HOm.1 g e.symm).1 rfl)
      have BX5 := blk_grown (blk_drew BX.out) hg5 (fun e => by have h1 := (HP.out.2.2.1.1 gb e.symm).2; have h2 := HL.out gb h1; have h3 := GX.out; omega)
      have HB5 := Kp.grown (Kp.drew HB.out) hg5 (fun k hk _ => (HP.out.2.2.1.1 k hk).2)
      refine one_ (i := 7) (N := some 32) (bb 11 255) rfl rfl (by kernel_rfl) (by decide) (fun K2 hK2 => ?_)
      refine val_ (w1 := w5) (.slice A5 L2.length c5) (by rfl) rfl ?_ ?_
      · exact app_run_ rfl rfl rfl hrun5
      refine hK2.out _ _ ⟨(blk_cell BX5 0).trans rfl, (blk_cell BX5 1).trans rfl, (blk_cell BX5 2).trans rfl, (blk_cell BX5 3).trans rfl, (blk_cell BX5 4).trans rfl, (blk_cell BX5 5).trans rfl, (blk_cell BG5 0).trans rfl⟩ (fun hHeld3 => ?_)
      refine u_ 8 33 (bb 11 511) ?_
      refine u_ 9 34 (bb 11 1023) ?_
      have hs26 : w5.cell? ⟨g, 0, none⟩ = some (.slice A L.length c) := (blk_cell BG5 0).trans rfl
      have hfs26 := blk_frozen BG5 0
      refine last_ (i := 10) (N := none) (bb 11 2047) rfl rfl (by kernel_rfl) (by decide) (fun K3 hK3 => ?_)
      refine skip_ (w1 := w5.setCell ⟨g, 0, none⟩ (.slice A5 L2.length c5)) (by rfl) rfl ?_ ?_
      · first | (go_simp; done) | (go_simp; rfl)
      refine hK3 _ _ ?_
      refine done_ (by kernel_rfl) ?_
      have hF0 := HP.out.1
      have BG6 := blk_put BG5 0 (.slice A5 L2.length c5) (cs' := #[.slice A5 L2.length c5]) rfl
      have HBf := Kp.setCell (p := ⟨g, 0, none⟩) HB5 hF0 (.slice A5 L2.length c5)
      have hbnd := fun k (hk : (Value.slice A0 L0.length c0).ownBlock = some k) => Kd.R_lt HV5 k hk
      have HPf : RB (w5.setCell ⟨g, 0, none⟩ (.slice A5 L2.length c5)) (fun k => (F k ∨ w.heap.size ≤ k) ∧ k < (w5.setCell ⟨g, 0, none⟩ (.slice A5 L2.length c5)).heap.size) g L2 A5 c5 :=
        ⟨⟨.inl hF0, blk_lt BG6⟩, BG6, Kd.R_mono (Kd.R_bound (Kd.R_far (p := ⟨g, 0, none⟩) HO5 (fun k hk => hk.1) _)) (fun k hk => ⟨hk.1.1, hk.1.2, hk.2.2.1⟩), fun k hk => hk.2⟩
      have HVf : SV (w5.setCell ⟨g, 0, none⟩ (.slice A5 L2.length c5)) (fun k => (F k ∨ w.heap.size ≤ k) ∧ k < (w5.setCell ⟨g, 0, none⟩ (.slice A5 L2.length c5)).heap.size) g A0 c0 L0 :=
        Kd.R_mono (Kd.R_bound (Kd.R_far (p := ⟨g, 0, none⟩) HV5 (fun k hk => hk.1) _)) (fun k hk => ⟨hk.1.1, hk.1.2, hk.2.2.1⟩)
      have hcg2 : (w5.setCell ⟨g, 0, none⟩ (.slice A5 L2.length c5)).cell? ⟨g, 0, none⟩ = some (.slice A5 L2.length c5) := (blk_cell BG6 0).trans rfl
      have hfg2 := blk_frozen BG6 0
      replace HPf := Aside0.mk HPf
      replace HVf := Aside0.mk HVf
      replace HBf := Aside0.mk HBf
      replace hbnd := Aside0.mk hbnd
      clear hHeld hHeld2 hHeld3 hs26 hfs26 BG5 BX5 HO5 HV5 HB5 BG6 hcg hfg
      try go_wp2
      go_ret
      refine ⟨_, A5, c5, ?_, by rw [hres.out.2, ← hL2.out]; exact HPf.out, HVf.out, ⟨fun k hk => hk.1, HBf.out⟩⟩
      rw [hres.out.1]
      have e : wrap64 ((L2.length : Int) - 1) = (L.length : Int) := by
        rw [hL2.out, List.length_append]
        simp only [List.length_singleton]
        unfold wrap64
        omega
      first
        | exact congrArg (fun n => Ending.returned (Value.int .i64 n)) e
        | simp [e]
end Go.Proofs.YtldejfkplnejjaaDoor.P
namespace Go.Proofs.YtldejfkplnejjaaDoor.P
open Go.Maps Go.WideMaps Go.MapKept
open Go.RowKit Go.Proofs.YtldejfkplnejjaaDoorW.PrintWords Go.Proofs.YtldejfkplnejjaaDoorW.PrintLast Go.Proofs.YtldejfkplnejjaaDoorW.PrintMore
set_option linter.unusedVariables false
set_option linter.unusedSimpArgs false
theorem pre_put {L0 L : List S50} (h : L0 <+: L) (x : S50) : L0 <+: putL x L := by
  unfold putL
  split
  · exact h
  · exact h.trans (List.prefix_append _ _)
theorem pre_cla {L0 L : List S50} (h : L0 <+: L) (s : ByteArray) : L0 <+: claL s L := pre_put (pre_put h _) _
set_option maxHeartbeats 8000000 in
set_option maxRecDepth 100000 in
theorem rword.frame (s : ByteArray) (hs : s.size ≤ maxLen) (L L0 : List S50) (hpre : L0 <+: L) (F : Nat → Prop) (g : Nat) (A A0 : Option Addr) (c c0 : Nat) (w : World) (hL : L.length ≤ 900000000000) (h : RB w F g L A c) (hv : SV w F g A0 c0 L0) :
    Calls Tryd.prog 88 #[.pointer (some ⟨g, 0, none⟩), .string s] w fun e_ w' => ∃ F' A' c', e_ = .returned (.int .i64 (putI (eT s) L)) ∧ RB w' F' g (putL (eT s) L) A' c' ∧ SV w' F' g A0 c0 L0 ∧ Stp F w F' w' := by
  have hput := Aside0.mk (rput.frame (eT s) (okE_T hs) L L0 (by omega) hpre F g A A0 c c0 w h hv)
  clear h hv hpre
  go_enter Tryd.func88, Tryd.ntmps88
  go_wp2_with (first | ((with_reducible refine gt_ 90 ?_); (try (refine gate_guard (by rfl) ?_; dsimp only)); refine gc_ 8 Tryd.func90 #[.pointer (some ⟨g, 0, none⟩), .agg #[.int .i64 1, .string s, .int .i64 0, .int .i64 0, .int .i64 0, .int .i64 0]] ?_; refine (hput.out).mono ?_; rintro e1 w1 ⟨F1, A1, c1, rfl, hp, hV, hS⟩; refine ⟨_, rfl, ?_⟩; replace hp := Aside0.mk hp; replace hS := Aside0.mk hS; replace hV := Aside0.mk hV))
  go_ret
  exact ⟨_, _, _, rfl, hp.out, hV.out, hS.out⟩
set_option maxHeartbeats 8000000 in
set_option maxRecDepth 100000 in
theorem rclass.frame (s : ByteArray) (hs : s.size ≤ maxLen) (L L0 : List S50) (hpre : L0 <+: L) (F : Nat → Prop) (g : Nat) (A A0 : Option Addr) (c c0 : Nat) (w : World) (hL : L.length ≤ 900000000000) (h : RB w F g L A c) (hv : SV w F g A0 c0 L0) :
    Calls Tryd.prog 92 #[.pointer (some ⟨g, 0, none⟩), .string s] w fun e_ w' => ∃ F' A' c', e_ = .returned (.int .i64 (claI s L)) ∧ RB w' F' g (claL s L) A' c' ∧ SV w' F' g A0 c0 L0 ∧ Stp F w F' w' := by
  have h1 := Aside0.mk (rword.frame s hs L L0 hpre F g A A0 c c0 w hL h hv)
  have hl := putL_len (eT s) L
  have hi := putI_in (eT s) L
  have hq := pre_put hpre (eT s)
  have hput := Aside0.mk (fun (F1 : Nat → Prop) (A1 : Option Addr) (c1 : Nat) (w1 : World) (h : RB w1 F1 g (putL (eT s) L) A1 c1) (hv : SV w1 F1 g A0 c0 L0) => rput.frame (eA 3 (putI (eT s) L)) (okE_A (by omega) hi.1 (by omega)) (putL (eT s) L) L0 (by omega) hq F1 g A1 A0 c1 c0 w1 h hv)
  clear h hv hpre hl hi hq
  unfold claI claL
  generalize putI (eT s) L = a at h1 hput ⊢
  go_enter Tryd.func92, Tryd.ntmps92
  go_wp2_with (first | ((with_reducible refine gt_ 88 ?_); (try (refine gate_guard (by rfl) ?_; dsimp only)); refine gc_ 8 Tryd.func88 #[.pointer (some ⟨g, 0, none⟩), .string s] ?_; refine (h1.out).mono ?_; rintro e1 w1 ⟨F1, A1, c1, rfl, hp, hV, hS⟩; refine ⟨_, rfl, ?_⟩; replace hp := Aside0.mk hp; replace hS := Aside0.mk hS; replace hV := Aside0.mk hV) | ((with_reducible refine gt_ 90 ?_); (try (refine gate_guard (by rfl) ?_; dsimp only)); refine gc_ 10 Tryd.func90 #[.pointer (some ⟨g, 0, none⟩), .agg #[.int .i64 3, .string (⟨#[]⟩ : ByteArray), .int .i64 0, .int .i64 a, .int .i64 0, .int .i64 0]] ?_; refine (hput.out _ _ _ _ hp.out hV.out).mono ?_; rintro e2 w2 ⟨F2, A2, c2, rfl, hp2, hv2, hs2⟩; refine ⟨_, rfl, ?_⟩; have n0_ := Aside0.mk hp2; have n1_ := Aside0.mk (hS.out.trans hs2); have n2_ := Aside0.mk hv2; clear hp hS hV hp2 hs2 hv2; have hp := n0_; have hS := n1_; have hV := n2_; clear n0_ n1_ n2_))
  go_ret
  exact ⟨_, _, _, rfl, hp.out, hV.out, hS.out⟩
set_option maxHeartbeats 8000000 in
set_option maxRecDepth 100000 in
theorem rended.frame (i : Int) (L0 L1 : List S50) (hL : L1.length ≤ 1000000000000) (F : Nat → Prop) (g : Nat) (A A0 : Option Addr) (c c0 : Nat) (w : World) (h : RB w F g L1 A c) (hv : SV w F g A0 c0 L0) :
    Calls Tryd.prog 87 #[.pointer (some ⟨g, 0, none⟩), .slice A0 L0.length c0, .int .i64 i] w fun e_ w' => ∃ F' A' c', e_ = .returned (.tuple #[.int .i64 (kpI i L1), .int .i64 (kpE L1)]) ∧ RB w' F' g (kpL L0 L1) A' c' ∧ Stp F w F' w' := by
  have BG := h.2.1
  have hcg : w.cell? ⟨g, 0, none⟩ = some (.slice A L1.length c) := (blk_cell BG 0).trans rfl
  have hfg := blk_frozen BG 0
  by_cases hf : 4096 < L1.length
  · have h1 : decide ((4096 : Int) < (L1.length : Int)) = true := decide_eq_true (by omega)
    have h2 : decide (4096 < L1.length) = true := decide_eq_true hf
    have e1 : kpI i L1 = 0 := if_pos hf
    have e2 : kpE L1 = 4 := if_pos hf
    have e3 : kpL L0 L1 = L0 := if_pos hf
    rw [e1, e2, e3]
    have HP : RB (w.setCell ⟨g, 0, none⟩ (.slice A0 L0.length c0)) F g L0 A0 c0 := ⟨h.1, blk_put BG 0 _ rfl, Kd.R_far (p := ⟨g, 0, none⟩) hv (fun k hk => hk.1) _, fun k hk => Nat.lt_of_lt_of_le (h.2.2.2 k hk) (Kp.setCell (Kp.refl F w) (p := ⟨g, 0, none⟩) h.1 _).size⟩
    have HK : Stp F w F (w.setCell ⟨g, 0, none⟩ (.slice A0 L0.length c0)) := ⟨fun k hk => .inl hk, Kp.setCell (Kp.refl F w) h.1 _⟩
    replace HP := Aside0.mk HP
    replace HK := Aside0.mk HK
    clear e1 e2 e3 h hv BG hf
    go_enter Tryd.func87, Tryd.ntmps87
    go_wp2
    go_ret2
    exact ⟨F, A0, c0, by first | rfl | simp, HP.out, HK.out⟩
  · have h1 : decide ((4096 : Int) < (L1.length : Int)) = false := decide_eq_false (by omega)
    have h2 : decide (4096 < L1.length) = false := decide_eq_false hf
    have e1 : kpI i L1 = i := if_neg hf
    have e2 : kpE L1 = 0 := if_neg hf
    have e3 : kpL L0 L1 = L1 := if_neg hf
    rw [e1, e2, e3]
    replace h := Aside0.mk h
    clear e1 e2 e3 hv BG hf
    go_enter Tryd.func87, Tryd.ntmps87
    go_wp2
    go_ret2
    exact ⟨F, A, c, by first | rfl | simp, h.out, Stp.refl _ _⟩
set_option maxHeartbeats 8000000 in
set_option maxRecDepth 100000 in
theorem rText.frame (s : ByteArray) (hs : s.size ≤ maxLen) (L : List S50) (hL : L.length ≤ 4096) (F : Nat → Prop) (g : Nat) (A : Option Addr) (c : Nat) (w : World) (h : RB w F g L A c) :
    Calls Tryd.prog 51 #[.pointer (some ⟨g, 0, none⟩), .string s] w fun e_ w' => ∃ F' A' c', e_ = .returned (.tuple #[.int .i64 (txI s L), .int .i64 (txE s L)]) ∧ RB w' F' g (txL s L) A' c' ∧ Stp F w F' w' := by
  by_cases hl : 255 < s.size
  · have h1 : decide ((255 : Int) < (s.size : Int)) = true := decide_eq_true (by omega)
    have h2 : decide (255 < s.size) = true := decide_eq_true hl
    have e1 : txI s L = 0 := if_pos hl
    have e2 : txE s L = 5 := if_pos hl
    have e3 : txL s L = L := if_pos hl
    rw [e1, e2, e3]
    clear e1 e2 e3
    replace h := Aside0.mk h
    go_enter Tryd.func51, Tryd.ntmps51
    go_wp2
    go_ret2
    exact ⟨F, A, c, by first | rfl | simp, h.out, Stp.refl _ _⟩
  · have h1 : decide ((255 : Int) < (s.size : Int)) = false := decide_eq_false (by omega)
    have h2 : decide (255 < s.size) = false := decide_eq_false hl
    have e1 : txI s L = kpI (putI (eT s) L) (putL (eT s) L) := if_neg hl
    have e2 : txE s L = kpE (putL (eT s) L) := if_neg hl
    have e3 : txL s L = kpL L (putL (eT s) L) := if_neg hl
    rw [e1, e2, e3]
    clear e1 e2 e3
    have m1 := putL_len (eT s) L
    have BG := h.2.1
    have hcg : w.cell? ⟨g, 0, none⟩ = some (.slice A L.length c) := (blk_cell BG 0).trans rfl
    have hfg := blk_frozen BG 0
    have hv : SV w F g A c L := h.2.2.1
    clear BG
    have c1 := Aside0.mk (rword.frame s hs L L (List.prefix_refl L) F g A A c c w (by omega) h hv)
    have c2 := Aside0.mk (fun (F1 : Nat → Prop) (A1 : Option Addr) (c1 : Nat) (w1 : World) (h : RB w1 F1 g (putL (eT s) L) A1 c1) (hv : SV w1 F1 g A c L) => rended.frame (putI (eT s) L) L (putL (eT s) L) (by omega) F1 g A1 A c1 c w1 h hv)
    generalize putL (eT s) L = L1 at c1 c2 ⊢
    generalize putI (eT s) L = i at c1 c2 ⊢
    clear h hv m1
    go_enter Tryd.func51, Tryd.ntmps51
    go_wp2_with (first | ((with_reducible refine gt_ 88 ?_); (try (refine gate_guard (by rfl) ?_; dsimp only)); refine gc_ 18 Tryd.func88 #[.pointer (some ⟨g, 0, none⟩), .string s] ?_; refine (c1.out).mono ?_; rintro e1 w1 ⟨F1, A1, k1, rfl, hp, hV, hS⟩; refine ⟨_, rfl, ?_⟩; replace hp := Aside0.mk hp; replace hS := Aside0.mk hS; replace hV := Aside0.mk hV) | ((with_reducible refine gt_ 87 ?_); (try (refine gate_guard (by rfl) ?_; dsimp only)); refine gc_ 19 Tryd.func87 #[.pointer (some ⟨g, 0, none⟩), .slice A L.length c, .int .i64 i] ?_; refine (c2.out _ _ _ _ hp.out hV.out).mono ?_; rintro e2 w2 ⟨F2, A2, k2, rfl, hp2, hs2⟩; refine ⟨_, rfl, ?_⟩; have n0_ := Aside0.mk hp2; have n1_ := Aside0.mk (hS.out.trans hs2); clear hp hS hV hp2 hs2; have hp := n0_; have hS := n1_; clear n0_ n1_))
    go_ret2
    exact ⟨_, _, _, by first | rfl | simp, hp.out, hS.out⟩
set_option maxHeartbeats 8000000 in
set_option maxRecDepth 100000 in
theorem rNumber.frame (n : Int) (hn : (Lit.int .i64 n).wf = true) (L : List S50) (hL : L.length ≤ 4096) (F : Nat → Prop) (g : Nat) (A : Option Addr) (c : Nat) (w : World) (h : RB w F g L A c) :
    Calls Tryd.prog 53 #[.pointer (some ⟨g, 0, none⟩), .int .i64 n] w fun e_ w' => ∃ F' A' c', e_ = .returned (.tuple #[.int .i64 (kpI (putI (eN n) L) (putL (eN n) L)), .int .i64 (kpE (putL (eN n) L))]) ∧ RB w' F' g (kpL L (putL (eN n) L)) A' c' ∧ Stp F w F' w' := by
  have m1 := putL_len (eN n) L
  have BG := h.2.1
  have hcg : w.cell? ⟨g, 0, none⟩ = some (.slice A L.length c) := (blk_cell BG 0).trans rfl
  have hfg := blk_frozen BG 0
  have hv : SV w F g A c L := h.2.2.1
  clear BG
  have c1 := Aside0.mk (rput.frame (eN n) (okE_N hn) L L (by omega) (List.prefix_refl L) F g A A c c w h hv)
  have c2 := Aside0.mk (fun (F1 : Nat → Prop) (A1 : Option Addr) (c1 : Nat) (w1 : World) (h : RB w1 F1 g (putL (eN n) L) A1 c1) (hv : SV w1 F1 g A c L) => rended.frame (putI (eN n) L) L (putL (eN n) L) (by omega) F1 g A1 A c1 c w1 h hv)
  generalize putL (eN n) L = L1 at c1 c2 ⊢
  generalize putI (eN n) L = i at c1 c2 ⊢
  clear h hv m1 hn
  go_enter Tryd.func53, Tryd.ntmps53
  go_wp2_with (first | ((with_reducible refine gt_ 90 ?_); (try (refine gate_guard (by rfl) ?_; dsimp only)); refine gc_ 16 Tryd.func90 #[.pointer (some ⟨g, 0, none⟩), .agg #[.int .i64 2, .string (⟨#[]⟩ : ByteArray), .int .i64 n, .int .i64 0, .int .i64 0, .int .i64 0]] ?_; refine (c1.out).mono ?_; rintro e1 w1 ⟨F1, A1, k1, rfl, hp, hV, hS⟩; refine ⟨_, rfl, ?_⟩; replace hp := Aside0.mk hp; replace hS := Aside0.mk hS; replace hV := Aside0.mk hV) | ((with_reducible refine gt_ 87 ?_); (try (refine gate_guard (by rfl) ?_; dsimp only)); refine gc_ 17 Tryd.func87 #[.pointer (some ⟨g, 0, none⟩), .slice A L.length c, .int .i64 i] ?_; refine (c2.out _ _ _ _ hp.out hV.out).mono ?_; rintro e2 w2 ⟨F2, A2, k2, rfl, hp2, hs2⟩; refine ⟨_, rfl, ?_⟩; have n0_ := Aside0.mk hp2; have n1_ := Aside0.mk (hS.out.trans hs2); clear hp hS hV hp2 hs2; have hp := n0_; have hS := n1_; clear n0_ n1_))
  go_ret2
  exact ⟨_, _, _, by first | rfl | simp, hp.out, hS.out⟩
end Go.Proofs.YtldejfkplnejjaaDoor.P
namespace Go.Proofs.YtldejfkplnejjaaDoor.P
open Go.Maps Go.WideMaps Go.MapKept
open Go.RowKit Go.Proofs.YtldejfkplnejjaaDoorW.PrintWords Go.Proofs.YtldejfkplnejjaaDoorW.PrintLast Go.Proofs.YtldejfkplnejjaaDoorW.PrintMore
set_option linter.unusedVariables false
set_option linter.unusedSimpArgs false
theorem keystoneref2_Name.below (k : Nat) (a0 : ByteArray) (r : Bool) (w : World) (h : keystoneref2_Name.f k a0 = some r) : Calls Tryd.prog 91 #[.string a0] w fun e w' => e = .returned (.bool r) ∧ Below w.heap.size w w' := by
  refine (keystoneref2_Name.calls k a0 r w h).mono ?_
  rintro e w' ⟨he, hd⟩
  exact ⟨he, hd.below⟩
set_option maxHeartbeats 8000000 in
set_option maxRecDepth 100000 in
theorem rClass.frame (k : Nat) (s : ByteArray) (hs : s.size ≤ maxLen) (b : Bool) (hN : keystoneref2_Name.f k s = some b) (L : List S50) (hL : L.length ≤ 4096) (F : Nat → Prop) (g : Nat) (A : Option Addr) (c : Nat) (w : World) (h : RB w F g L A c) :
    Calls Tryd.prog 54 #[.pointer (some ⟨g, 0, none⟩), .string s] w fun e_ w' => ∃ F' A' c', e_ = .returned (.tuple #[.int .i64 (clI b s L), .int .i64 (clE b s L)]) ∧ RB w' F' g (clL b s L) A' c' ∧ Stp F w F' w' := by
  replace hN := Aside0.mk hN
  cases b with
  | false =>
    have e1 : clI false s L = 0 := rfl
    have e2 : clE false s L = 14 := rfl
    have e3 : clL false s L = L := rfl
    rw [e1, e2, e3]
    clear e1 e2 e3
    have hp := Aside0.mk h
    have hS := Aside0.mk (Stp.refl F w)
    clear h
    go_enter Tryd.func54, Tryd.ntmps54
    go_wp2_with (first | ((with_reducible refine gt_ 91 ?_); (try (refine gate_guard (by rfl) ?_; dsimp only)); refine gc_ 8 Tryd.func91 #[.string s] ?_; refine (keystoneref2_Name.below k s false _ hN.out).mono ?_; rintro e1 w1 ⟨rfl, hB2⟩; refine ⟨_, rfl, ?_⟩; have n0_ := Aside0.mk (RB_below hp.out hB2); have n1_ := Aside0.mk (hS.out.step hB2); clear hp hS hB2; have hp := n0_; have hS := n1_; clear n0_ n1_))
    go_ret2
    exact ⟨F, A, c, by first | rfl | simp, hp.out, hS.out⟩
  | true =>
    have e1 : clI true s L = kpI (claI s L) (claL s L) := rfl
    have e2 : clE true s L = kpE (claL s L) := rfl
    have e3 : clL true s L = kpL L (claL s L) := rfl
    rw [e1, e2, e3]
    clear e1 e2 e3
    have m1 := claL_len s L
    have c1 := Aside0.mk (fun (w1 : World) (h : RB w1 F g L A c) (hv : SV w1 F g A c L) => rclass.frame s hs L L (List.prefix_refl L) F g A A c c w1 (by omega) h hv)
    have c2 := Aside0.mk (fun (F1 : Nat → Prop) (A1 : Option Addr) (c1 : Nat) (w1 : World) (h : RB w1 F1 g (claL s L) A1 c1) (hv : SV w1 F1 g A c L) => rended.frame (claI s L) L (claL s L) (by omega) F1 g A1 A c1 c w1 h hv)
    generalize claL s L = L1 at c1 c2 ⊢
    generalize claI s L = i at c1 c2 ⊢
    clear m1
    have hp := Aside0.mk h
    have hS := Aside0.mk (Stp.refl F w)
    clear h
    go_enter Tryd.func54, Tryd.ntmps54
    go_wp2_with (first | ((with_reducible refine gt_ 91 ?_); (try (refine gate_guard (by rfl) ?_; dsimp only)); refine gc_ 8 Tryd.func91 #[.string s] ?_; refine (keystoneref2_Name.below k s true _ hN.out).mono ?_; rintro e1 w1 ⟨rfl, hB2⟩; refine ⟨_, rfl, ?_⟩; have n0_ := Aside0.mk (RB_below hp.out hB2); have n1_ := Aside0.mk (hS.out.step hB2); clear hp hS hB2; have hp := n0_; have hS := n1_; clear n0_ n1_; have BG := hp.out.2.1; have hcg := (blk_cell BG 0).trans (show (#[Value.slice A L.length c] : Array Value)[0]? = some (.slice A L.length c) from rfl); have hfg := blk_frozen BG 0; have hV := Aside0.mk (show SV _ F g A c L from hp.out.2.2.1); clear BG) | ((with_reducible refine gt_ 92 ?_); (try (refine gate_guard (by rfl) ?_; dsimp only)); refine gc_ 18 Tryd.func92 #[.pointer (some ⟨g, 0, none⟩), .string s] ?_; refine (c1.out _ hp.out hV.out).mono ?_; rintro e2 w2 ⟨F2, A2, k2, rfl, hp2, hv2, hs2⟩; refine ⟨_, rfl, ?_⟩; have n0_ := Aside0.mk hp2; have n1_ := Aside0.mk (hS.out.trans hs2); have n2_ := Aside0.mk hv2; clear hp hS hV hp2 hs2 hv2; have hp := n0_; have hS := n1_; have hV := n2_; clear n0_ n1_ n2_) | ((with_reducible refine gt_ 87 ?_); (try (refine gate_guard (by rfl) ?_; dsimp only)); refine gc_ 19 Tryd.func87 #[.pointer (some ⟨g, 0, none⟩), .slice A L.length c, .int .i64 i] ?_; refine (c2.out _ _ _ _ hp.out hV.out).mono ?_; rintro e3 w3 ⟨F3, A3, k3, rfl, hp2, hs2⟩; refine ⟨_, rfl, ?_⟩; have n0_ := Aside0.mk hp2; have n1_ := Aside0.mk (hS.out.trans hs2); clear hp hS hV hp2 hs2; have hp := n0_; have hS := n1_; clear n0_ n1_))
    go_ret2
    exact ⟨_, _, _, by first | rfl | simp, hp.out, hS.out⟩
end Go.Proofs.YtldejfkplnejjaaDoor.P
namespace Go.Proofs.YtldejfkplnejjaaDoor.P
open Go.Maps Go.WideMaps Go.MapKept
open Go.RowKit Go.Proofs.YtldejfkplnejjaaDoorW.PrintWords Go.Proofs.YtldejfkplnejjaaDoorW.PrintLast Go.Proofs.YtldejfkplnejjaaDoorW.PrintMore
set_option linter.unusedVariables false
set_option linter.unusedSimpArgs false
set_option maxHeartbeats 8000000 in
set_option maxRecDepth 100000 in
theorem rType.frame (td : Int) (tn : ByteArray) (s : ByteArray) (e : Int) (hs : s.size ≤ maxLen) (L : List S50) (hL : L.length ≤ 4096) (F : Nat → Prop) (g : Nat) (A : Option Addr) (c : Nat) (w : World) (h : RB w F g L A c)
    (hT : ∀ w1, Below w.heap.size w w1 → Calls Tryd.prog 93 #[.agg #[.int .i64 td, .string tn]] w1 fun e_ w' => e_ = .returned (.tuple #[.string s, .int .i64 e]) ∧ Below w1.heap.size w1 w') :
    Calls Tryd.prog 56 #[.pointer (some ⟨g, 0, none⟩), .agg #[.int .i64 td, .string tn]] w fun e_ w' => ∃ F' A' c', e_ = .returned (.tuple #[.int .i64 (tyI s e L), .int .i64 (tyE s e L)]) ∧ RB w' F' g (tyL s e L) A' c' ∧ Stp F w F' w' := by
  replace hT := Aside0.mk hT
  by_cases he : e = 0
  · have e1 : tyI s e L = kpI (typI s L) (typL s L) := if_pos he
    have e2 : tyE s e L = kpE (typL s L) := if_pos he
    have e3 : tyL s e L = kpL L (typL s L) := if_pos he
    rw [e1, e2, e3]
    subst he
    clear e1 e2 e3
    have m1 := typL_len s L
    have m2 := putI_in (eT s) L
    have m3 := putL_len (eT s) L
    have hq := pre_put (List.prefix_refl L) (eT s)
    have c1 := Aside0.mk (fun (w1 : World) (h : RB w1 F g L A c) (hv : SV w1 F g A c L) => rword.frame s hs L L (List.prefix_refl L) F g A A c c w1 (by omega) h hv)
    have c2 := Aside0.mk (fun (F1 : Nat → Prop) (A1 : Option Addr) (c1 : Nat) (w1 : World) (h : RB w1 F1 g (putL (eT s) L) A1 c1) (hv : SV w1 F1 g A c L) => rput.frame (eA 4 (putI (eT s) L)) (okE_A (by omega) m2.1 (by omega)) (putL (eT s) L) L (by omega) hq F1 g A1 A c1 c w1 h hv)
    have c3 := Aside0.mk (fun (F1 : Nat → Prop) (A1 : Option Addr) (c1 : Nat) (w1 : World) (h : RB w1 F1 g (typL s L) A1 c1) (hv : SV w1 F1 g A c L) => rended.frame (typI s L) L (typL s L) (by omega) F1 g A1 A c1 c w1 h hv)
    unfold typI typL at c3
    unfold typI typL
    generalize putI (eT s) L = a at c1 c2 c3 ⊢
    generalize putL (eT s) L = L1 at c1 c2 c3 ⊢
    generalize putL (eA 4 a) L1 = L2 at c2 c3 ⊢
    generalize putI (eA 4 a) L1 = i at c2 c3 ⊢
    clear m1 m2 m3 hq
    have hp := Aside0.mk h
    have hS := Aside0.mk (Stp.refl F w)
    clear h
    have bw := Aside0.mk (Below.refl w.heap.size w)
    go_enter Tryd.func56, Tryd.ntmps56
    go_wp2_with (first | ((with_reducible refine d_ 3 ?_); refine X_ 3 #[.int .i64 td, .string tn] 34 ?_; intro gx hg w2 hbox hB2; have n0_ := Aside0.mk (RB_below hp.out hB2); have n1_ := Aside0.mk (hS.out.step hB2); have n2_ := Aside0.mk (below_then bw.out bw.out.size hB2); clear hp hS hB2 hg bw; have hp := n0_; have hS := n1_; have bw := n2_; clear n0_ n1_ n2_; replace hbox := Aside0.mk hbox; obtain ⟨z0, z1, y0, y1⟩ := c2_ hbox.out) | ((with_reducible refine gt_ 93 ?_); (try (refine gate_guard (by rfl) ?_; dsimp only)); refine gc_ 11 Tryd.func93 #[.agg #[.int .i64 td, .string tn]] ?_; refine (hT.out _ bw.out).mono ?_; rintro e1 w1 ⟨rfl, hB2⟩; refine ⟨_, rfl, ?_⟩; have n0_ := Aside0.mk (RB_below hp.out hB2); have n1_ := Aside0.mk (hS.out.step hB2); clear hp hS hB2; have hp := n0_; have hS := n1_; clear n0_ n1_; have BG := hp.out.2.1; have hcg := (blk_cell BG 0).trans (show (#[Value.slice A L.length c] : Array Value)[0]? = some (.slice A L.length c) from rfl); have hfg := blk_frozen BG 0; have hV := Aside0.mk (show SV _ F g A c L from hp.out.2.2.1); clear BG) | ((with_reducible refine gt_ 88 ?_); (try (refine gate_guard (by rfl) ?_; dsimp only)); refine gc_ 26 Tryd.func88 #[.pointer (some ⟨g, 0, none⟩), .string s] ?_; refine (c1.out _ hp.out hV.out).mono ?_; rintro e2 w2 ⟨F2, A2, k2, rfl, hp2, hv2, hs2⟩; refine ⟨_, rfl, ?_⟩; have n0_ := Aside0.mk hp2; have n1_ := Aside0.mk (hS.out.trans hs2); have n2_ := Aside0.mk hv2; clear hp hS hV hp2 hs2 hv2; have hp := n0_; have hS := n1_; have hV := n2_; clear n0_ n1_ n2_) | ((with_reducible refine gt_ 90 ?_); (try (refine gate_guard (by rfl) ?_; dsimp only)); refine gc_ 28 Tryd.func90 #[.pointer (some ⟨g, 0, none⟩), .agg #[.int .i64 4, .string (⟨#[]⟩ : ByteArray), .int .i64 0, .int .i64 a, .int .i64 0, .int .i64 0]] ?_; refine (c2.out _ _ _ _ hp.out hV.out).mono ?_; rintro e3 w3 ⟨F3, A3, k3, rfl, hp2, hv2, hs2⟩; refine ⟨_, rfl, ?_⟩; have n0_ := Aside0.mk hp2; have n1_ := Aside0.mk (hS.out.trans hs2); have n2_ := Aside0.mk hv2; clear hp hS hV hp2 hs2 hv2; have hp := n0_; have hS := n1_; have hV := n2_; clear n0_ n1_ n2_) | ((with_reducible refine gt_ 87 ?_); (try (refine gate_guard (by rfl) ?_; dsimp only)); refine gc_ 29 Tryd.func87 #[.pointer (some ⟨g, 0, none⟩), .slice A L.length c, .int .i64 i] ?_; refine (c3.out _ _ _ _ hp.out hV.out).mono ?_; rintro e4 w4 ⟨F4, A4, k4, rfl, hp2, hs2⟩; refine ⟨_, rfl, ?_⟩; have n0_ := Aside0.mk hp2; have n1_ := Aside0.mk (hS.out.trans hs2); clear hp hS hV hp2 hs2; have hp := n0_; have hS := n1_; clear n0_ n1_))
    go_ret2
    exact ⟨_, _, _, by first | rfl | simp, hp.out, hS.out⟩
  · have e1 : tyI s e L = 0 := if_neg he
    have e2 : tyE s e L = e := if_neg he
    have e3 : tyL s e L = L := if_neg he
    rw [e1, e2, e3]
    have b1 : (e == 0) = false := beq_eq_false_iff_ne.mpr he
    have b2 : (e != 0) = true := bne_iff_ne.mpr he
    clear e1 e2 e3 he
    have hp := Aside0.mk h
    have hS := Aside0.mk (Stp.refl F w)
    clear h
    have bw := Aside0.mk (Below.refl w.heap.size w)
    go_enter Tryd.func56, Tryd.ntmps56
    go_wp2_with (first | ((with_reducible refine d_ 3 ?_); refine X_ 3 #[.int .i64 td, .string tn] 34 ?_; intro gx hg w2 hbox hB2; have n0_ := Aside0.mk (RB_below hp.out hB2); have n1_ := Aside0.mk (hS.out.step hB2); have n2_ := Aside0.mk (below_then bw.out bw.out.size hB2); clear hp hS hB2 hg bw; have hp := n0_; have hS := n1_; have bw := n2_; clear n0_ n1_ n2_; replace hbox := Aside0.mk hbox; obtain ⟨z0, z1, y0, y1⟩ := c2_ hbox.out) | ((with_reducible refine gt_ 93 ?_); (try (refine gate_guard (by rfl) ?_; dsimp only)); refine gc_ 11 Tryd.func93 #[.agg #[.int .i64 td, .string tn]] ?_; refine (hT.out _ bw.out).mono ?_; rintro e1 w1 ⟨rfl, hB2⟩; refine ⟨_, rfl, ?_⟩; have n0_ := Aside0.mk (RB_below hp.out hB2); have n1_ := Aside0.mk (hS.out.step hB2); clear hp hS hB2; have hp := n0_; have hS := n1_; clear n0_ n1_))
    go_ret2
    exact ⟨F, A, c, by first | rfl | simp, hp.out, hS.out⟩
end Go.Proofs.YtldejfkplnejjaaDoor.P
namespace Go.Proofs.YtldejfkplnejjaaDoor.P
open Go.Maps Go.WideMaps Go.MapKept
open Go.RowKit Go.Proofs.YtldejfkplnejjaaDoorW.PrintWords Go.Proofs.YtldejfkplnejjaaDoorW.PrintLast Go.Proofs.YtldejfkplnejjaaDoorW.PrintMore
set_option linter.unusedVariables false
set_option linter.unusedSimpArgs false
def RW (w0 : World) (F0 : Nat → Prop) (w : World) (F : Nat → Prop) (g : Nat) (L : List S50) (A : Option Addr) (c : Nat) (A0 : Option Addr) (c0 : Nat) (L0 : List S50) (gx : Nat) (cs : Array Value) : Prop :=
  RB w F g L A c ∧ SV w F g A0 c0 L0 ∧ Stp F0 w0 F w ∧ ¬ F gx ∧ w0.heap.size ≤ gx ∧ w.heap[gx]? = some (.cells cs 50 (0, 0))
theorem RW_set {w0 w : World} {F0 F : Nat → Prop} {g : Nat} {L L0 : List S50} {A A0 : Option Addr} {c c0 gx : Nat} {cs cs' : Array Value} (h : RW w0 F0 w F g L A c A0 c0 L0 gx cs) (i : Nat) (u : Value) (e : cs.setIfInBounds i u = cs') : RW w0 F0 (w.setCell ⟨gx, i, none⟩ u) F g L A c A0 c0 L0 gx cs' := by
  obtain ⟨h1, h2, h3, h4, h5, h6⟩ := h
  have hk : Kp (fun k => k = gx) w (w.setCell ⟨gx, i, none⟩ u) := Kp.setCell (F := fun k => k = gx) (p := ⟨gx, i, none⟩) (Kp.refl _ w) rfl u
  have hd : ∀ k, F k → ¬ k = gx := fun k hk he => h4 (he ▸ hk)
  refine ⟨RB_apart h1 hk hd, Kd.R_far (p := ⟨gx, i, none⟩) h2 (fun k hk => hd k hk.2) _, ⟨h3.own, ?_⟩, h4, h5, blk_put h6 i u e⟩
  exact ⟨hk.os.trans h3.kp.os, hk.tape.trans h3.kp.tape, hk.output.trans h3.kp.output, Nat.le_trans h3.kp.size hk.size, fun k hlt hf => (hk.block k (Nat.lt_of_lt_of_le hlt h3.kp.size) (fun e => by omega)).trans (h3.kp.block k hlt hf)⟩
section
variable {w0 w : World} {F0 F : Nat → Prop} {g : Nat} {L L0 : List S50} {A A0 : Option Addr} {c c0 gx : Nat} {v0 v1 v2 v3 v4 v5 : Value}
theorem RW_s4 (h : RW w0 F0 w F g L A c A0 c0 L0 gx #[v0, v1, v2, v3, v4, v5]) (u : Value) : RW w0 F0 (w.setCell ⟨gx, 4, none⟩ u) F g L A c A0 c0 L0 gx #[v0, v1, v2, v3, u, v5] := RW_set h 4 u rfl
theorem RW_s5 (h : RW w0 F0 w F g L A c A0 c0 L0 gx #[v0, v1, v2, v3, v4, v5]) (u : Value) : RW w0 F0 (w.setCell ⟨gx, 5, none⟩ u) F g L A c A0 c0 L0 gx #[v0, v1, v2, v3, v4, u] := RW_set h 5 u rfl
theorem RW_s6 (h : RW w0 F0 w F g L A c A0 c0 L0 gx #[v0, v1, v2, v3, v4, v5]) (u0 u1 u2 u3 u4 u5 : Value) : RW w0 F0 ((((((w.setCell ⟨gx, 0, none⟩ u0).setCell ⟨gx, 1, none⟩ u1).setCell ⟨gx, 2, none⟩ u2).setCell ⟨gx, 3, none⟩ u3).setCell ⟨gx, 4, none⟩ u4).setCell ⟨gx, 5, none⟩ u5) F g L A c A0 c0 L0 gx #[u0, u1, u2, u3, u4, u5] := by
  have h0 : RW w0 F0 (w.setCell ⟨gx, 0, none⟩ u0) F g L A c A0 c0 L0 gx #[u0, v1, v2, v3, v4, v5] := RW_set h 0 u0 rfl
  have h1 : RW w0 F0 _ F g L A c A0 c0 L0 gx #[u0, u1, v2, v3, v4, v5] := RW_set h0 1 u1 rfl
  have h2 : RW w0 F0 _ F g L A c A0 c0 L0 gx #[u0, u1, u2, v3, v4, v5] := RW_set h1 2 u2 rfl
  have h3 : RW w0 F0 _ F g L A c A0 c0 L0 gx #[u0, u1, u2, u3, v4, v5] := RW_set h2 3 u3 rfl
  exact RW_s5 (RW_s4 h3 u4) u5
end
theorem RW_step {w0 w w' : World} {F0 F F' : Nat → Prop} {g : Nat} {L L' L0 : List S50} {A A' A0 : Option Addr} {c c' c0 gx : Nat} {cs : Array Value} (h : RW w0 F0 w F g L A c A0 c0 L0 gx cs) (hp : RB w' F' g L' A' c') (hv : SV w' F' g A0 c0 L0) (hs : Stp F w F' w') : RW w0 F0 w' F' g L' A' c' A0 c0 L0 gx cs := by
  obtain ⟨h1, h2, h3, h4, h5, h6⟩ := h
  have hlt := blk_lt h6
  exact ⟨hp, hv, h3.trans hs, fun hf => by rcases hs.own gx hf with h | h; exact h4 h; omega, h5, (hs.kp.block gx hlt h4).trans h6⟩
theorem RW_new {w0 w w' : World} {F0 F : Nat → Prop} {g : Nat} {L L0 : List S50} {A A0 : Option Addr} {c c0 gx : Nat} {cs : Array Value} (hp : RB w F g L A c) (hv : SV w F g A0 c0 L0) (hs : Stp F0 w0 F w) (hg : gx = w.heap.size) (hb : w'.heap[gx]? = some (.cells cs 50 (0, 0))) (hB : Below w.heap.size w w') : RW w0 F0 w' F g L A c A0 c0 L0 gx cs :=
  ⟨RB_below hp hB, SV_below hv hB, hs.step hB, fun hf => by have := hp.2.2.2 gx hf; omega, by rw [hg]; exact hs.kp.size, hb⟩
set_option maxHeartbeats 8000000 in
set_option maxRecDepth 100000 in
theorem rField.frame (k : Nat) (c n : ByteArray) (td : Int) (tn s : ByteArray) (e : Int) (b1 b2 : Bool) (hc : c.size ≤ maxLen) (hn : n.size ≤ maxLen) (hs : s.size ≤ maxLen) (h1 : keystoneref2_Name.f k c = some b1) (h2 : keystoneref2_Name.f k n = some b2) (L : List S50) (hL : L.length ≤ 4096) (F : Nat → Prop) (g : Nat) (A : Option Addr) (c' : Nat) (w : World) (h : RB w F g L A c')
    (hT : ∀ w1, Below w.heap.size w w1 → Calls Tryd.prog 93 #[.agg #[.int .i64 td, .string tn]] w1 fun e_ w' => e_ = .returned (.tuple #[.string s, .int .i64 e]) ∧ Below w1.heap.size w1 w') :
    Calls Tryd.prog 57 #[.pointer (some ⟨g, 0, none⟩), .string c, .string n, .agg #[.int .i64 td, .string tn]] w fun e_ w' => ∃ F' A' k', e_ = .returned (.tuple #[.int .i64 (fdI b1 b2 c n s e L), .int .i64 (fdE b1 b2 c n s e L)]) ∧ RB w' F' g (fdL b1 b2 c n s e L) A' k' ∧ Stp F w F' w' := by
  replace h1 := Aside0.mk h1
  replace h2 := Aside0.mk h2
  replace hT := Aside0.mk hT
  cases b1 with
  | false =>
    have e1 : fdI false b2 c n s e L = 0 := by cases b2 <;> rfl
    have e2 : fdE false b2 c n s e L = 14 := by cases b2 <;> rfl
    have e3 : fdL false b2 c n s e L = L := by cases b2 <;> rfl
    rw [e1, e2, e3]
    clear e1 e2 e3
    have hp := Aside0.mk h
    have hS := Aside0.mk (Stp.refl F w)
    clear h
    have bw := Aside0.mk (Below.refl w.heap.size w)
    go_enter Tryd.func57, Tryd.ntmps57
    go_wp2_with (first | ((with_reducible refine d_ 7 ?_); refine X_ 7 #[.int .i64 td, .string tn] 34 ?_; intro gb hg w2 hbox hB2; have n0_ := Aside0.mk (RB_below hp.out hB2); have n1_ := Aside0.mk (hS.out.step hB2); have n2_ := Aside0.mk (below_then bw.out bw.out.size hB2); clear hp hS hB2 hg bw; have hp := n0_; have hS := n1_; have bw := n2_; clear n0_ n1_ n2_; replace hbox := Aside0.mk hbox) | ((with_reducible refine gt_ 91 ?_); (try (refine gate_guard (by rfl) ?_; dsimp only)); refine gc_ 15 Tryd.func91 #[.string c] ?_; refine (keystoneref2_Name.below k c false _ h1.out).mono ?_; rintro e1 w1 ⟨rfl, hB2⟩; refine ⟨_, rfl, ?_⟩; have n0_ := Aside0.mk (RB_below hp.out hB2); have n1_ := Aside0.mk (hS.out.step hB2); have nw_ := Aside0.mk (below_then bw.out bw.out.size hB2); clear bw; have bw := nw_; clear nw_; have nb_ := Aside0.mk (blk_below hbox.out hB2); clear hbox; have hbox := nb_; clear nb_; clear hp hS hB2; have hp := n0_; have hS := n1_; clear n0_ n1_))
    go_ret2
    exact ⟨F, A, c', by first | rfl | simp, hp.out, hS.out⟩
  | true =>
  cases b2 with
  | false =>
    have e1 : fdI true false c n s e L = 0 := rfl
    have e2 : fdE true false c n s e L = 14 := rfl
    have e3 : fdL true false c n s e L = L := rfl
    rw [e1, e2, e3]
    clear e1 e2 e3
    have hp := Aside0.mk h
    have hS := Aside0.mk (Stp.refl F w)
    clear h
    have bw := Aside0.mk (Below.refl w.heap.size w)
    go_enter Tryd.func57, Tryd.ntmps57
    go_wp2_with (first | ((with_reducible refine d_ 7 ?_); refine X_ 7 #[.int .i64 td, .string tn] 34 ?_; intro gb hg w2 hbox hB2; have n0_ := Aside0.mk (RB_below hp.out hB2); have n1_ := Aside0.mk (hS.out.step hB2); have n2_ := Aside0.mk (below_then bw.out bw.out.size hB2); clear hp hS hB2 hg bw; have hp := n0_; have hS := n1_; have bw := n2_; clear n0_ n1_ n2_; replace hbox := Aside0.mk hbox) | ((with_reducible refine gt_ 91 ?_); (try (refine gate_guard (by rfl) ?_; dsimp only)); refine gc_ 15 Tryd.func91 #[.string c] ?_; refine (keystoneref2_Name.below k c true _ h1.out).mono ?_; rintro e1 w1 ⟨rfl, hB2⟩; refine ⟨_, rfl, ?_⟩; have n0_ := Aside0.mk (RB_below hp.out hB2); have n1_ := Aside0.mk (hS.out.step hB2); have nw_ := Aside0.mk (below_then bw.out bw.out.size hB2); clear bw; have bw := nw_; clear nw_; have nb_ := Aside0.mk (blk_below hbox.out hB2); clear hbox; have hbox := nb_; clear nb_; clear hp hS hB2; have hp := n0_; have hS := n1_; clear n0_ n1_) | ((with_reducible refine gt_ 91 ?_); (try (refine gate_guard (by rfl) ?_; dsimp only)); refine gc_ 19 Tryd.func91 #[.string n] ?_; refine (keystoneref2_Name.below k n false _ h2.out).mono ?_; rintro e1 w1 ⟨rfl, hB2⟩; refine ⟨_, rfl, ?_⟩; have n0_ := Aside0.mk (RB_below hp.out hB2); have n1_ := Aside0.mk (hS.out.step hB2); have nw_ := Aside0.mk (below_then bw.out bw.out.size hB2); clear bw; have bw := nw_; clear nw_; have nb_ := Aside0.mk (blk_below hbox.out hB2); clear hbox; have hbox := nb_; clear nb_; clear hp hS hB2; have hp := n0_; have hS := n1_; clear n0_ n1_; obtain ⟨z0, z1, y0, y1⟩ := c2_ hbox.out))
    go_ret2
    exact ⟨F, A, c', by first | rfl | simp, hp.out, hS.out⟩
  | true =>
  by_cases he : e = 0
  · subst he
    have e1 : fdI true true c n s 0 L = kpI (memI 5 c n s L) (memL 5 c n s L) := rfl
    have e2 : fdE true true c n s 0 L = kpE (memL 5 c n s L) := rfl
    have e3 : fdL true true c n s 0 L = kpL L (memL 5 c n s L) := rfl
    rw [e1, e2, e3]
    clear e1 e2 e3
    have l1 := claL_len c L
    have i1 := claI_in c L
    have p1 := pre_cla (List.prefix_refl L) c
    have m1 := Aside0.mk (fun (w1 : World) (h : RB w1 F g L A c') (hv : SV w1 F g A c' L) => rclass.frame c hc L L (List.prefix_refl L) F g A A c' c' w1 (by omega) h hv)
    unfold memL memI memE
    generalize claL c L = L1 at m1 l1 p1 i1 ⊢
    generalize claI c L = a at m1 i1 ⊢
    have l2 := putL_len (eT n) L1
    have i2 := putI_in (eT n) L1
    have p2 := pre_put p1 (eT n)
    have m2 := Aside0.mk (fun (F1 : Nat → Prop) (A1 : Option Addr) (c1 : Nat) (w1 : World) (gx : Nat) (cs : Array Value) (hq : RW w F w1 F1 g L1 A1 c1 A c' L gx cs) => (rword.frame n hn L1 L p1 F1 g A1 A c1 c' w1 (by omega) hq.1 hq.2.1).mono (fun e_ w' hh => show ∃ F' A' c2, e_ = .returned (.int .i64 (putI (eT n) L1)) ∧ RW w F w' F' g (putL (eT n) L1) A' c2 A c' L gx cs from (let ⟨F', A', c2, he, hp, hv, hs⟩ := hh; ⟨F', A', c2, he, RW_step hq hp hv hs⟩)))
    generalize putL (eT n) L1 = L2 at m2 l2 p2 ⊢
    generalize putI (eT n) L1 = b at m2 i2 ⊢
    have l3 := putL_len (eT s) L2
    have i3 := putI_in (eT s) L2
    have p3 := pre_put p2 (eT s)
    have m3 := Aside0.mk (fun (F1 : Nat → Prop) (A1 : Option Addr) (c1 : Nat) (w1 : World) (gx : Nat) (cs : Array Value) (hq : RW w F w1 F1 g L2 A1 c1 A c' L gx cs) => (rword.frame s hs L2 L p2 F1 g A1 A c1 c' w1 (by omega) hq.1 hq.2.1).mono (fun e_ w' hh => show ∃ F' A' c2, e_ = .returned (.int .i64 (putI (eT s) L2)) ∧ RW w F w' F' g (putL (eT s) L2) A' c2 A c' L gx cs from (let ⟨F', A', c2, he, hp, hv, hs⟩ := hh; ⟨F', A', c2, he, RW_step hq hp hv hs⟩)))
    generalize putL (eT s) L2 = L3 at m3 l3 p3 ⊢
    generalize putI (eT s) L2 = d at m3 i3 ⊢
    have l4 := putL_len (eM 5 a b d) L3
    have m4 := Aside0.mk (fun (F1 : Nat → Prop) (A1 : Option Addr) (c1 : Nat) (w1 : World) (gx : Nat) (cs : Array Value) (hq : RW w F w1 F1 g L3 A1 c1 A c' L gx cs) => (rput.frame (eM 5 a b d) (okE_M (by omega) (by omega) (by omega) (by omega)) L3 L (by omega) p3 F1 g A1 A c1 c' w1 hq.1 hq.2.1).mono (fun e_ w' hh => show ∃ F' A' c2, e_ = .returned (.int .i64 (putI (eM 5 a b d) L3)) ∧ RW w F w' F' g (putL (eM 5 a b d) L3) A' c2 A c' L gx cs from (let ⟨F', A', c2, he, hp, hv, hs⟩ := hh; ⟨F', A', c2, he, RW_step hq hp hv hs⟩)))
    have m5 := Aside0.mk (fun (F1 : Nat → Prop) (A1 : Option Addr) (c1 : Nat) (w1 : World) (h : RB w1 F1 g (putL (eM 5 a b d) L3) A1 c1) (hv : SV w1 F1 g A c' L) => rended.frame (putI (eM 5 a b d) L3) L (putL (eM 5 a b d) L3) (by omega) F1 g A1 A c1 c' w1 h hv)
    generalize putL (eM 5 a b d) L3 = L4 at m4 m5 ⊢
    generalize putI (eM 5 a b d) L3 = i at m4 m5 ⊢
    clear l1 l2 l3 l4 i1 i2 i3 p1 p2 p3
    have hp := Aside0.mk h
    have hS := Aside0.mk (Stp.refl F w)
    clear h
    have bw := Aside0.mk (Below.refl w.heap.size w)
    go_enter Tryd.func57, Tryd.ntmps57
    go_wp2_with (first | ((with_reducible refine d_ 7 ?_); refine X_ 7 #[.int .i64 td, .string tn] 34 ?_; intro gb hg w2 hbox hB2; have n0_ := Aside0.mk (RB_below hp.out hB2); have n1_ := Aside0.mk (hS.out.step hB2); have n2_ := Aside0.mk (below_then bw.out bw.out.size hB2); clear hp hS hB2 hg bw; have hp := n0_; have hS := n1_; have bw := n2_; clear n0_ n1_ n2_; replace hbox := Aside0.mk hbox) | ((with_reducible refine gt_ 91 ?_); (try (refine gate_guard (by rfl) ?_; dsimp only)); refine gc_ 15 Tryd.func91 #[.string c] ?_; refine (keystoneref2_Name.below k c true _ h1.out).mono ?_; rintro e1 w1 ⟨rfl, hB2⟩; refine ⟨_, rfl, ?_⟩; have n0_ := Aside0.mk (RB_below hp.out hB2); have n1_ := Aside0.mk (hS.out.step hB2); have nw_ := Aside0.mk (below_then bw.out bw.out.size hB2); clear bw; have bw := nw_; clear nw_; have nb_ := Aside0.mk (blk_below hbox.out hB2); clear hbox; have hbox := nb_; clear nb_; clear hp hS hB2; have hp := n0_; have hS := n1_; clear n0_ n1_) | ((with_reducible refine gt_ 91 ?_); (try (refine gate_guard (by rfl) ?_; dsimp only)); refine gc_ 19 Tryd.func91 #[.string n] ?_; refine (keystoneref2_Name.below k n true _ h2.out).mono ?_; rintro e1 w1 ⟨rfl, hB2⟩; refine ⟨_, rfl, ?_⟩; have n0_ := Aside0.mk (RB_below hp.out hB2); have n1_ := Aside0.mk (hS.out.step hB2); have nw_ := Aside0.mk (below_then bw.out bw.out.size hB2); clear bw; have bw := nw_; clear nw_; have nb_ := Aside0.mk (blk_below hbox.out hB2); clear hbox; have hbox := nb_; clear nb_; clear hp hS hB2; have hp := n0_; have hS := n1_; clear n0_ n1_; obtain ⟨z0, z1, y0, y1⟩ := c2_ hbox.out) | ((with_reducible refine gt_ 93 ?_); (try (refine gate_guard (by rfl) ?_; dsimp only)); refine gc_ 24 Tryd.func93 #[.agg #[.int .i64 td, .string tn]] ?_; refine (hT.out _ bw.out).mono ?_; rintro e1 w1 ⟨rfl, hB2⟩; refine ⟨_, rfl, ?_⟩; have n0_ := Aside0.mk (RB_below hp.out hB2); have n1_ := Aside0.mk (hS.out.step hB2); clear hp hS hB2 hbox z0 z1 y0 y1; have hp := n0_; have hS := n1_; clear n0_ n1_; have BG := hp.out.2.1; have hcg := (blk_cell BG 0).trans (show (#[Value.slice A L.length c'] : Array Value)[0]? = some (.slice A L.length c') from rfl); have hfg := blk_frozen BG 0; have hV := Aside0.mk (show SV _ F g A c' L from hp.out.2.2.1); clear BG) | ((with_reducible refine gt_ 92 ?_); (try (refine gate_guard (by rfl) ?_; dsimp only)); refine gc_ 36 Tryd.func92 #[.pointer (some ⟨g, 0, none⟩), .string c] ?_; refine (m1.out _ hp.out hV.out).mono ?_; rintro e2 w2 ⟨F2, A2, k2, rfl, hp2, hv2, hs2⟩; refine ⟨_, rfl, ?_⟩; have n0_ := Aside0.mk hp2; have n1_ := Aside0.mk (hS.out.trans hs2); have n2_ := Aside0.mk hv2; clear hp hS hV hp2 hs2 hv2; have hp := n0_; have hS := n1_; have hV := n2_; clear n0_ n1_ n2_) | ((with_reducible refine d_ 13 ?_); refine X_ 13 #[.int .i64 0, .string (⟨#[]⟩ : ByteArray), .int .i64 0, .int .i64 0, .int .i64 0, .int .i64 0] 50 ?_; intro gx hg w3 hb3 hB3; have hq := Aside0.mk (RW_new hp.out hV.out hS.out hg hb3 hB3); clear hp hS hV hb3 hB3 hg; obtain ⟨z0, z1, z2, z3, z4, z5, y0, y1, y2, y3, y4, y5⟩ := c6_ hq.out.2.2.2.2.2) | ((with_reducible refine gt_ 88 ?_); (try (refine gate_guard (by rfl) ?_; dsimp only)); refine gc_ 40 Tryd.func88 #[.pointer (some ⟨g, 0, none⟩), .string n] ?_; refine (m2.out _ _ _ _ gx _ (RW_s6 hq.out (.int .i64 5) (.string (⟨#[]⟩ : ByteArray)) (.int .i64 0) (.int .i64 a) (.int .i64 0) (.int .i64 0))).mono ?_; rintro e4 w4 ⟨F4, A4, k4, rfl, hq4⟩; refine ⟨_, rfl, ?_⟩; clear hq z0 z1 z2 z3 z4 z5 y0 y1 y2 y3 y4 y5; have hq := Aside0.mk hq4; clear hq4; obtain ⟨z0, z1, z2, z3, z4, z5, y0, y1, y2, y3, y4, y5⟩ := c6_ hq.out.2.2.2.2.2) | ((with_reducible refine gt_ 88 ?_); (try (refine gate_guard (by rfl) ?_; dsimp only)); refine gc_ 44 Tryd.func88 #[.pointer (some ⟨g, 0, none⟩), .string s] ?_; refine (m3.out _ _ _ _ gx _ (RW_s4 hq.out (.int .i64 b))).mono ?_; rintro e5 w5 ⟨F5, A5, k5, rfl, hq5⟩; refine ⟨_, rfl, ?_⟩; clear hq z0 z1 z2 z3 z4 z5 y0 y1 y2 y3 y4 y5; have hq := Aside0.mk hq5; clear hq5; obtain ⟨z0, z1, z2, z3, z4, z5, y0, y1, y2, y3, y4, y5⟩ := c6_ hq.out.2.2.2.2.2) | ((with_reducible refine gt_ 90 ?_); (try (refine gate_guard (by rfl) ?_; dsimp only)); refine gc_ 50 Tryd.func90 #[.pointer (some ⟨g, 0, none⟩), .agg #[.int .i64 5, .string (⟨#[]⟩ : ByteArray), .int .i64 0, .int .i64 a, .int .i64 b, .int .i64 d]] ?_; refine (m4.out _ _ _ _ gx _ (RW_s5 hq.out (.int .i64 d))).mono ?_; rintro e6 w6 ⟨F6, A6, k6, rfl, hq6⟩; refine ⟨_, rfl, ?_⟩; clear hq z0 z1 z2 z3 z4 z5 y0 y1 y2 y3 y4 y5; have hp := Aside0.mk hq6.1; have hV := Aside0.mk hq6.2.1; have hS := Aside0.mk hq6.2.2.1; clear hq6) | ((with_reducible refine gt_ 87 ?_); (try (refine gate_guard (by rfl) ?_; dsimp only)); refine gc_ 51 Tryd.func87 #[.pointer (some ⟨g, 0, none⟩), .slice A L.length c', .int .i64 i] ?_; refine (m5.out _ _ _ _ hp.out hV.out).mono ?_; rintro e7 w7 ⟨F7, A7, k7, rfl, hp2, hs2⟩; refine ⟨_, rfl, ?_⟩; have n0_ := Aside0.mk hp2; have n1_ := Aside0.mk (hS.out.trans hs2); clear hp hS hV hp2 hs2; have hp := n0_; have hS := n1_; clear n0_ n1_))
    go_ret2
    exact ⟨_, _, _, by first | rfl | simp, hp.out, hS.out⟩
  · have q1 : (e == 0) = false := beq_eq_false_iff_ne.mpr he
    have q2 : (e != 0) = true := bne_iff_ne.mpr he
    have e1 : fdI true true c n s e L = 0 := if_neg he
    have e2 : fdE true true c n s e L = e := if_neg he
    have e3 : fdL true true c n s e L = L := if_neg he
    rw [e1, e2, e3]
    clear e1 e2 e3
    clear he
    have hp := Aside0.mk h
    have hS := Aside0.mk (Stp.refl F w)
    clear h
    have bw := Aside0.mk (Below.refl w.heap.size w)
    go_enter Tryd.func57, Tryd.ntmps57
    go_wp2_with (first | ((with_reducible refine d_ 7 ?_); refine X_ 7 #[.int .i64 td, .string tn] 34 ?_; intro gb hg w2 hbox hB2; have n0_ := Aside0.mk (RB_below hp.out hB2); have n1_ := Aside0.mk (hS.out.step hB2); have n2_ := Aside0.mk (below_then bw.out bw.out.size hB2); clear hp hS hB2 hg bw; have hp := n0_; have hS := n1_; have bw := n2_; clear n0_ n1_ n2_; replace hbox := Aside0.mk hbox) | ((with_reducible refine gt_ 91 ?_); (try (refine gate_guard (by rfl) ?_; dsimp only)); refine gc_ 15 Tryd.func91 #[.string c] ?_; refine (keystoneref2_Name.below k c true _ h1.out).mono ?_; rintro e1 w1 ⟨rfl, hB2⟩; refine ⟨_, rfl, ?_⟩; have n0_ := Aside0.mk (RB_below hp.out hB2); have n1_ := Aside0.mk (hS.out.step hB2); have nw_ := Aside0.mk (below_then bw.out bw.out.size hB2); clear bw; have bw := nw_; clear nw_; have nb_ := Aside0.mk (blk_below hbox.out hB2); clear hbox; have hbox := nb_; clear nb_; clear hp hS hB2; have hp := n0_; have hS := n1_; clear n0_ n1_) | ((with_reducible refine gt_ 91 ?_); (try (refine gate_guard (by rfl) ?_; dsimp only)); refine gc_ 19 Tryd.func91 #[.string n] ?_; refine (keystoneref2_Name.below k n true _ h2.out).mono ?_; rintro e1 w1 ⟨rfl, hB2⟩; refine ⟨_, rfl, ?_⟩; have n0_ := Aside0.mk (RB_below hp.out hB2); have n1_ := Aside0.mk (hS.out.step hB2); have nw_ := Aside0.mk (below_then bw.out bw.out.size hB2); clear bw; have bw := nw_; clear nw_; have nb_ := Aside0.mk (blk_below hbox.out hB2); clear hbox; have hbox := nb_; clear nb_; clear hp hS hB2; have hp := n0_; have hS := n1_; clear n0_ n1_; obtain ⟨z0, z1, y0, y1⟩ := c2_ hbox.out) | ((with_reducible refine gt_ 93 ?_); (try (refine gate_guard (by rfl) ?_; dsimp only)); refine gc_ 24 Tryd.func93 #[.agg #[.int .i64 td, .string tn]] ?_; refine (hT.out _ bw.out).mono ?_; rintro e1 w1 ⟨rfl, hB2⟩; refine ⟨_, rfl, ?_⟩; have n0_ := Aside0.mk (RB_below hp.out hB2); have n1_ := Aside0.mk (hS.out.step hB2); clear hp hS hB2 hbox z0 z1 y0 y1; have hp := n0_; have hS := n1_; clear n0_ n1_))
    go_ret2
    exact ⟨F, A, c', by first | rfl | simp, hp.out, hS.out⟩
end Go.Proofs.YtldejfkplnejjaaDoor.P
namespace Go.Proofs.YtldejfkplnejjaaDoor.P
open Go.Maps Go.WideMaps Go.MapKept
open Go.RowKit Go.Proofs.YtldejfkplnejjaaDoorW.PrintWords Go.Proofs.YtldejfkplnejjaaDoorW.PrintLast Go.Proofs.YtldejfkplnejjaaDoorW.PrintMore
set_option linter.unusedVariables false
set_option linter.unusedSimpArgs false
set_option maxHeartbeats 8000000 in
set_option maxRecDepth 100000 in
theorem rMethod.frame (k : Nat) (c n : ByteArray) (A_ : Option Addr) (na ca : Nat) (bo : Bool) (td : Int) (tn s : ByteArray) (e : Int) (b1 b2 : Bool) (hc : c.size ≤ maxLen) (hn : n.size ≤ maxLen) (hs : s.size ≤ maxLen) (h1 : keystoneref2_Name.f k c = some b1) (L : List S50) (hL : L.length ≤ 4096) (F : Nat → Prop) (g : Nat) (A : Option Addr) (c' : Nat) (w : World) (h : RB w F g L A c')
    (hM : ∀ w1, Below w.heap.size w w1 → Calls Tryd.prog 96 #[.string n] w1 fun e_ w' => e_ = .returned (.bool b2) ∧ Below w1.heap.size w1 w')
    (hT : ∀ w1, Below w.heap.size w w1 → Calls Tryd.prog 97 #[.agg #[.slice A_ na ca, .bool bo, .int .i64 td, .string tn]] w1 fun e_ w' => e_ = .returned (.tuple #[.string s, .int .i64 e]) ∧ Below w1.heap.size w1 w') :
    Calls Tryd.prog 59 #[.pointer (some ⟨g, 0, none⟩), .string c, .string n, .agg #[.slice A_ na ca, .bool bo, .int .i64 td, .string tn]] w fun e_ w' => ∃ F' A' k', e_ = .returned (.tuple #[.int .i64 (mdI b1 b2 c n s e L), .int .i64 (mdE b1 b2 c n s e L)]) ∧ RB w' F' g (mdL b1 b2 c n s e L) A' k' ∧ Stp F w F' w' := by
  replace h1 := Aside0.mk h1
  replace hM := Aside0.mk hM
  replace hT := Aside0.mk hT
  cases b1 with
  | false =>
    have e1 : mdI false b2 c n s e L = 0 := by cases b2 <;> rfl
    have e2 : mdE false b2 c n s e L = 14 := by cases b2 <;> rfl
    have e3 : mdL false b2 c n s e L = L := by cases b2 <;> rfl
    rw [e1, e2, e3]
    clear e1 e2 e3
    have hp := Aside0.mk h
    have hS := Aside0.mk (Stp.refl F w)
    clear h
    have bw := Aside0.mk (Below.refl w.heap.size w)
    go_enter Tryd.func59, Tryd.ntmps59
    go_wp2_with (first | ((with_reducible refine d_ 7 ?_); refine X_ 7 #[.slice A_ na ca, .bool bo, .int .i64 td, .string tn] 39 ?_; intro gb hg w2 hbox hB2; have n0_ := Aside0.mk (RB_below hp.out hB2); have n1_ := Aside0.mk (hS.out.step hB2); have n2_ := Aside0.mk (below_then bw.out bw.out.size hB2); clear hp hS hB2 hg bw; have hp := n0_; have hS := n1_; have bw := n2_; clear n0_ n1_ n2_; replace hbox := Aside0.mk hbox) | ((with_reducible refine gt_ 91 ?_); (try (refine gate_guard (by rfl) ?_; dsimp only)); refine gc_ 15 Tryd.func91 #[.string c] ?_; refine (keystoneref2_Name.below k c false _ h1.out).mono ?_; rintro e1 w1 ⟨rfl, hB2⟩; refine ⟨_, rfl, ?_⟩; have n0_ := Aside0.mk (RB_below hp.out hB2); have n1_ := Aside0.mk (hS.out.step hB2); have nw_ := Aside0.mk (below_then bw.out bw.out.size hB2); clear bw; have bw := nw_; clear nw_; have nb_ := Aside0.mk (blk_below hbox.out hB2); clear hbox; have hbox := nb_; clear nb_; clear hp hS hB2; have hp := n0_; have hS := n1_; clear n0_ n1_))
    go_ret2
    exact ⟨F, A, c', by first | rfl | simp, hp.out, hS.out⟩
  | true =>
  cases b2 with
  | false =>
    have e1 : mdI true false c n s e L = 0 := rfl
    have e2 : mdE true false c n s e L = 14 := rfl
    have e3 : mdL true false c n s e L = L := rfl
    rw [e1, e2, e3]
    clear e1 e2 e3
    have hp := Aside0.mk h
    have hS := Aside0.mk (Stp.refl F w)
    clear h
    have bw := Aside0.mk (Below.refl w.heap.size w)
    go_enter Tryd.func59, Tryd.ntmps59
    go_wp2_with (first | ((with_reducible refine d_ 7 ?_); refine X_ 7 #[.slice A_ na ca, .bool bo, .int .i64 td, .string tn] 39 ?_; intro gb hg w2 hbox hB2; have n0_ := Aside0.mk (RB_below hp.out hB2); have n1_ := Aside0.mk (hS.out.step hB2); have n2_ := Aside0.mk (below_then bw.out bw.out.size hB2); clear hp hS hB2 hg bw; have hp := n0_; have hS := n1_; have bw := n2_; clear n0_ n1_ n2_; replace hbox := Aside0.mk hbox) | ((with_reducible refine gt_ 91 ?_); (try (refine gate_guard (by rfl) ?_; dsimp only)); refine gc_ 15 Tryd.func91 #[.string c] ?_; refine (keystoneref2_Name.below k c true _ h1.out).mono ?_; rintro e1 w1 ⟨rfl, hB2⟩; refine ⟨_, rfl, ?_⟩; have n0_ := Aside0.mk (RB_below hp.out hB2); have n1_ := Aside0.mk (hS.out.step hB2); have nw_ := Aside0.mk (below_then bw.out bw.out.size hB2); clear bw; have bw := nw_; clear nw_; have nb_ := Aside0.mk (blk_below hbox.out hB2); clear hbox; have hbox := nb_; clear nb_; clear hp hS hB2; have hp := n0_; have hS := n1_; clear n0_ n1_) | ((with_reducible refine gt_ 96 ?_); (try (refine gate_guard (by rfl) ?_; dsimp only)); refine gc_ 19 Tryd.func96 #[.string n] ?_; refine (hM.out _ bw.out).mono ?_; rintro e1 w1 ⟨rfl, hB2⟩; refine ⟨_, rfl, ?_⟩; have n0_ := Aside0.mk (RB_below hp.out hB2); have n1_ := Aside0.mk (hS.out.step hB2); have nw_ := Aside0.mk (below_then bw.out bw.out.size hB2); clear bw; have bw := nw_; clear nw_; have nb_ := Aside0.mk (blk_below hbox.out hB2); clear hbox; have hbox := nb_; clear nb_; clear hp hS hB2; have hp := n0_; have hS := n1_; clear n0_ n1_; obtain ⟨z0, z1, z2, z3, y0, y1, y2, y3⟩ := c4_ hbox.out))
    go_ret2
    exact ⟨F, A, c', by first | rfl | simp, hp.out, hS.out⟩
  | true =>
  by_cases he : e = 0
  · subst he
    by_cases hl : 255 < s.size
    · have q1 : decide ((255 : Int) < (s.size : Int)) = true := decide_eq_true (by omega)
      have q2 : decide (255 < s.size) = true := decide_eq_true hl
      have e1 : mdI true true c n s 0 L = 0 := by simp [mdI, hl]
      have e2 : mdE true true c n s 0 L = 5 := by simp [mdE, hl]
      have e3 : mdL true true c n s 0 L = L := by simp [mdL, hl]
      rw [e1, e2, e3]
      clear e1 e2 e3
      clear hl
      have hp := Aside0.mk h
      have hS := Aside0.mk (Stp.refl F w)
      clear h
      have bw := Aside0.mk (Below.refl w.heap.size w)
      go_enter Tryd.func59, Tryd.ntmps59
      go_wp2_with (first | ((with_reducible refine d_ 7 ?_); refine X_ 7 #[.slice A_ na ca, .bool bo, .int .i64 td, .string tn] 39 ?_; intro gb hg w2 hbox hB2; have n0_ := Aside0.mk (RB_below hp.out hB2); have n1_ := Aside0.mk (hS.out.step hB2); have n2_ := Aside0.mk (below_then bw.out bw.out.size hB2); clear hp hS hB2 hg bw; have hp := n0_; have hS := n1_; have bw := n2_; clear n0_ n1_ n2_; replace hbox := Aside0.mk hbox) | ((with_reducible refine gt_ 91 ?_); (try (refine gate_guard (by rfl) ?_; dsimp only)); refine gc_ 15 Tryd.func91 #[.string c] ?_; refine (keystoneref2_Name.below k c true _ h1.out).mono ?_; rintro e1 w1 ⟨rfl, hB2⟩; refine ⟨_, rfl, ?_⟩; have n0_ := Aside0.mk (RB_below hp.out hB2); have n1_ := Aside0.mk (hS.out.step hB2); have nw_ := Aside0.mk (below_then bw.out bw.out.size hB2); clear bw; have bw := nw_; clear nw_; have nb_ := Aside0.mk (blk_below hbox.out hB2); clear hbox; have hbox := nb_; clear nb_; clear hp hS hB2; have hp := n0_; have hS := n1_; clear n0_ n1_) | ((with_reducible refine gt_ 96 ?_); (try (refine gate_guard (by rfl) ?_; dsimp only)); refine gc_ 19 Tryd.func96 #[.string n] ?_; refine (hM.out _ bw.out).mono ?_; rintro e1 w1 ⟨rfl, hB2⟩; refine ⟨_, rfl, ?_⟩; have n0_ := Aside0.mk (RB_below hp.out hB2); have n1_ := Aside0.mk (hS.out.step hB2); have nw_ := Aside0.mk (below_then bw.out bw.out.size hB2); clear bw; have bw := nw_; clear nw_; have nb_ := Aside0.mk (blk_below hbox.out hB2); clear hbox; have hbox := nb_; clear nb_; clear hp hS hB2; have hp := n0_; have hS := n1_; clear n0_ n1_; obtain ⟨z0, z1, z2, z3, y0, y1, y2, y3⟩ := c4_ hbox.out) | ((with_reducible refine gt_ 97 ?_); (try (refine gate_guard (by rfl) ?_; dsimp only)); refine gc_ 24 Tryd.func97 #[.agg #[.slice A_ na ca, .bool bo, .int .i64 td, .string tn]] ?_; refine (hT.out _ bw.out).mono ?_; rintro e1 w1 ⟨rfl, hB2⟩; refine ⟨_, rfl, ?_⟩; have n0_ := Aside0.mk (RB_below hp.out hB2); have n1_ := Aside0.mk (hS.out.step hB2); clear hp hS hB2 hbox z0 z1 z2 z3 y0 y1 y2 y3; have hp := n0_; have hS := n1_; clear n0_ n1_))
      go_ret2
      exact ⟨F, A, c', by first | rfl | simp, hp.out, hS.out⟩
    · have q1 : decide ((255 : Int) < (s.size : Int)) = false := decide_eq_false (by omega)
      have q2 : decide (255 < s.size) = false := decide_eq_false hl
      have e1 : mdI true true c n s 0 L = kpI (memI 6 c n s L) (memL 6 c n s L) := by simp [mdI, hl]
      have e2 : mdE true true c n s 0 L = kpE (memL 6 c n s L) := by simp [mdE, hl]
      have e3 : mdL true true c n s 0 L = kpL L (memL 6 c n s L) := by simp [mdL, hl]
      rw [e1, e2, e3]
      clear e1 e2 e3
      clear hl
      have l1 := claL_len c L
      have i1 := claI_in c L
      have p1 := pre_cla (List.prefix_refl L) c
      have m1 := Aside0.mk (fun (w1 : World) (h : RB w1 F g L A c') (hv : SV w1 F g A c' L) => rclass.frame c hc L L (List.prefix_refl L) F g A A c' c' w1 (by omega) h hv)
      unfold memL memI memE
      generalize claL c L = L1 at m1 l1 p1 i1 ⊢
      generalize claI c L = a at m1 i1 ⊢
      have l2 := putL_len (eT n) L1
      have i2 := putI_in (eT n) L1
      have p2 := pre_put p1 (eT n)
      have m2 := Aside0.mk (fun (F1 : Nat → Prop) (A1 : Option Addr) (c1 : Nat) (w1 : World) (gx : Nat) (cs : Array Value) (hq : RW w F w1 F1 g L1 A1 c1 A c' L gx cs) => (rword.frame n hn L1 L p1 F1 g A1 A c1 c' w1 (by omega) hq.1 hq.2.1).mono (fun e_ w' hh => show ∃ F' A' c2, e_ = .returned (.int .i64 (putI (eT n) L1)) ∧ RW w F w' F' g (putL (eT n) L1) A' c2 A c' L gx cs from (let ⟨F', A', c2, he, hp, hv, hs⟩ := hh; ⟨F', A', c2, he, RW_step hq hp hv hs⟩)))
      generalize putL (eT n) L1 = L2 at m2 l2 p2 ⊢
      generalize putI (eT n) L1 = b at m2 i2 ⊢
      have l3 := putL_len (eT s) L2
      have i3 := putI_in (eT s) L2
      have p3 := pre_put p2 (eT s)
      have m3 := Aside0.mk (fun (F1 : Nat → Prop) (A1 : Option Addr) (c1 : Nat) (w1 : World) (gx : Nat) (cs : Array Value) (hq : RW w F w1 F1 g L2 A1 c1 A c' L gx cs) => (rword.frame s hs L2 L p2 F1 g A1 A c1 c' w1 (by omega) hq.1 hq.2.1).mono (fun e_ w' hh => show ∃ F' A' c2, e_ = .returned (.int .i64 (putI (eT s) L2)) ∧ RW w F w' F' g (putL (eT s) L2) A' c2 A c' L gx cs from (let ⟨F', A', c2, he, hp, hv, hs⟩ := hh; ⟨F', A', c2, he, RW_step hq hp hv hs⟩)))
      generalize putL (eT s) L2 = L3 at m3 l3 p3 ⊢
      generalize putI (eT s) L2 = d at m3 i3 ⊢
      have l4 := putL_len (eM 6 a b d) L3
      have m4 := Aside0.mk (fun (F1 : Nat → Prop) (A1 : Option Addr) (c1 : Nat) (w1 : World) (gx : Nat) (cs : Array Value) (hq : RW w F w1 F1 g L3 A1 c1 A c' L gx cs) => (rput.frame (eM 6 a b d) (okE_M (by omega) (by omega) (by omega) (by omega)) L3 L (by omega) p3 F1 g A1 A c1 c' w1 hq.1 hq.2.1).mono (fun e_ w' hh => show ∃ F' A' c2, e_ = .returned (.int .i64 (putI (eM 6 a b d) L3)) ∧ RW w F w' F' g (putL (eM 6 a b d) L3) A' c2 A c' L gx cs from (let ⟨F', A', c2, he, hp, hv, hs⟩ := hh; ⟨F', A', c2, he, RW_step hq hp hv hs⟩)))
      have m5 := Aside0.mk (fun (F1 : Nat → Prop) (A1 : Option Addr) (c1 : Nat) (w1 : World) (h : RB w1 F1 g (putL (eM 6 a b d) L3) A1 c1) (hv : SV w1 F1 g A c' L) => rended.frame (putI (eM 6 a b d) L3) L (putL (eM 6 a b d) L3) (by omega) F1 g A1 A c1 c' w1 h hv)
      generalize putL (eM 6 a b d) L3 = L4 at m4 m5 ⊢
      generalize putI (eM 6 a b d) L3 = i at m4 m5 ⊢
      clear l1 l2 l3 l4 i1 i2 i3 p1 p2 p3
      have hp := Aside0.mk h
      have hS := Aside0.mk (Stp.refl F w)
      clear h
      have bw := Aside0.mk (Below.refl w.heap.size w)
      go_enter Tryd.func59, Tryd.ntmps59
      go_wp2_with (first | ((with_reducible refine d_ 7 ?_); refine X_ 7 #[.slice A_ na ca, .bool bo, .int .i64 td, .string tn] 39 ?_; intro gb hg w2 hbox hB2; have n0_ := Aside0.mk (RB_below hp.out hB2); have n1_ := Aside0.mk (hS.out.step hB2); have n2_ := Aside0.mk (below_then bw.out bw.out.size hB2); clear hp hS hB2 hg bw; have hp := n0_; have hS := n1_; have bw := n2_; clear n0_ n1_ n2_; replace hbox := Aside0.mk hbox) | ((with_reducible refine gt_ 91 ?_); (try (refine gate_guard (by rfl) ?_; dsimp only)); refine gc_ 15 Tryd.func91 #[.string c] ?_; refine (keystoneref2_Name.below k c true _ h1.out).mono ?_; rintro e1 w1 ⟨rfl, hB2⟩; refine ⟨_, rfl, ?_⟩; have n0_ := Aside0.mk (RB_below hp.out hB2); have n1_ := Aside0.mk (hS.out.step hB2); have nw_ := Aside0.mk (below_then bw.out bw.out.size hB2); clear bw; have bw := nw_; clear nw_; have nb_ := Aside0.mk (blk_below hbox.out hB2); clear hbox; have hbox := nb_; clear nb_; clear hp hS hB2; have hp := n0_; have hS := n1_; clear n0_ n1_) | ((with_reducible refine gt_ 96 ?_); (try (refine gate_guard (by rfl) ?_; dsimp only)); refine gc_ 19 Tryd.func96 #[.string n] ?_; refine (hM.out _ bw.out).mono ?_; rintro e1 w1 ⟨rfl, hB2⟩; refine ⟨_, rfl, ?_⟩; have n0_ := Aside0.mk (RB_below hp.out hB2); have n1_ := Aside0.mk (hS.out.step hB2); have nw_ := Aside0.mk (below_then bw.out bw.out.size hB2); clear bw; have bw := nw_; clear nw_; have nb_ := Aside0.mk (blk_below hbox.out hB2); clear hbox; have hbox := nb_; clear nb_; clear hp hS hB2; have hp := n0_; have hS := n1_; clear n0_ n1_; obtain ⟨z0, z1, z2, z3, y0, y1, y2, y3⟩ := c4_ hbox.out) | ((with_reducible refine gt_ 97 ?_); (try (refine gate_guard (by rfl) ?_; dsimp only)); refine gc_ 24 Tryd.func97 #[.agg #[.slice A_ na ca, .bool bo, .int .i64 td, .string tn]] ?_; refine (hT.out _ bw.out).mono ?_; rintro e1 w1 ⟨rfl, hB2⟩; refine ⟨_, rfl, ?_⟩; have n0_ := Aside0.mk (RB_below hp.out hB2); have n1_ := Aside0.mk (hS.out.step hB2); clear hp hS hB2 hbox z0 z1 z2 z3 y0 y1 y2 y3; have hp := n0_; have hS := n1_; clear n0_ n1_; have BG := hp.out.2.1; have hcg := (blk_cell BG 0).trans (show (#[Value.slice A L.length c'] : Array Value)[0]? = some (.slice A L.length c') from rfl); have hfg := blk_frozen BG 0; have hV := Aside0.mk (show SV _ F g A c' L from hp.out.2.2.1); clear BG) | ((with_reducible refine gt_ 92 ?_); (try (refine gate_guard (by rfl) ?_; dsimp only)); refine gc_ 39 Tryd.func92 #[.pointer (some ⟨g, 0, none⟩), .string c] ?_; refine (m1.out _ hp.out hV.out).mono ?_; rintro e2 w2 ⟨F2, A2, k2, rfl, hp2, hv2, hs2⟩; refine ⟨_, rfl, ?_⟩; have n0_ := Aside0.mk hp2; have n1_ := Aside0.mk (hS.out.trans hs2); have n2_ := Aside0.mk hv2; clear hp hS hV hp2 hs2 hv2; have hp := n0_; have hS := n1_; have hV := n2_; clear n0_ n1_ n2_) | ((with_reducible refine d_ 13 ?_); refine X_ 13 #[.int .i64 0, .string (⟨#[]⟩ : ByteArray), .int .i64 0, .int .i64 0, .int .i64 0, .int .i64 0] 50 ?_; intro gx hg w3 hb3 hB3; have hq := Aside0.mk (RW_new hp.out hV.out hS.out hg hb3 hB3); clear hp hS hV hb3 hB3 hg; obtain ⟨z0, z1, z2, z3, z4, z5, y0, y1, y2, y3, y4, y5⟩ := c6_ hq.out.2.2.2.2.2) | ((with_reducible refine gt_ 88 ?_); (try (refine gate_guard (by rfl) ?_; dsimp only)); refine gc_ 43 Tryd.func88 #[.pointer (some ⟨g, 0, none⟩), .string n] ?_; refine (m2.out _ _ _ _ gx _ (RW_s6 hq.out (.int .i64 6) (.string (⟨#[]⟩ : ByteArray)) (.int .i64 0) (.int .i64 a) (.int .i64 0) (.int .i64 0))).mono ?_; rintro e4 w4 ⟨F4, A4, k4, rfl, hq4⟩; refine ⟨_, rfl, ?_⟩; clear hq z0 z1 z2 z3 z4 z5 y0 y1 y2 y3 y4 y5; have hq := Aside0.mk hq4; clear hq4; obtain ⟨z0, z1, z2, z3, z4, z5, y0, y1, y2, y3, y4, y5⟩ := c6_ hq.out.2.2.2.2.2) | ((with_reducible refine gt_ 88 ?_); (try (refine gate_guard (by rfl) ?_; dsimp only)); refine gc_ 47 Tryd.func88 #[.pointer (some ⟨g, 0, none⟩), .string s] ?_; refine (m3.out _ _ _ _ gx _ (RW_s4 hq.out (.int .i64 b))).mono ?_; rintro e5 w5 ⟨F5, A5, k5, rfl, hq5⟩; refine ⟨_, rfl, ?_⟩; clear hq z0 z1 z2 z3 z4 z5 y0 y1 y2 y3 y4 y5; have hq := Aside0.mk hq5; clear hq5; obtain ⟨z0, z1, z2, z3, z4, z5, y0, y1, y2, y3, y4, y5⟩ := c6_ hq.out.2.2.2.2.2) | ((with_reducible refine gt_ 90 ?_); (try (refine gate_guard (by rfl) ?_; dsimp only)); refine gc_ 53 Tryd.func90 #[.pointer (some ⟨g, 0, none⟩), .agg #[.int .i64 6, .string (⟨#[]⟩ : ByteArray), .int .i64 0, .int .i64 a, .int .i64 b, .int .i64 d]] ?_; refine (m4.out _ _ _ _ gx _ (RW_s5 hq.out (.int .i64 d))).mono ?_; rintro e6 w6 ⟨F6, A6, k6, rfl, hq6⟩; refine ⟨_, rfl, ?_⟩; clear hq z0 z1 z2 z3 z4 z5 y0 y1 y2 y3 y4 y5; have hp := Aside0.mk hq6.1; have hV := Aside0.mk hq6.2.1; have hS := Aside0.mk hq6.2.2.1; clear hq6) | ((with_reducible refine gt_ 87 ?_); (try (refine gate_guard (by rfl) ?_; dsimp only)); refine gc_ 54 Tryd.func87 #[.pointer (some ⟨g, 0, none⟩), .slice A L.length c', .int .i64 i] ?_; refine (m5.out _ _ _ _ hp.out hV.out).mono ?_; rintro e7 w7 ⟨F7, A7, k7, rfl, hp2, hs2⟩; refine ⟨_, rfl, ?_⟩; have n0_ := Aside0.mk hp2; have n1_ := Aside0.mk (hS.out.trans hs2); clear hp hS hV hp2 hs2; have hp := n0_; have hS := n1_; clear n0_ n1_))
      go_ret2
      exact ⟨_, _, _, by first | rfl | simp, hp.out, hS.out⟩
  · have q1 : (e == 0) = false := beq_eq_false_iff_ne.mpr he
    have q2 : (e != 0) = true := bne_iff_ne.mpr he
    have e1 : mdI true true c n s e L = 0 := if_neg he
    have e2 : mdE true true c n s e L = e := if_neg he
    have e3 : mdL true true c n s e L = L := if_neg he
    rw [e1, e2, e3]
    clear e1 e2 e3
    clear he
    have hp := Aside0.mk h
    have hS := Aside0.mk (Stp.refl F w)
    clear h
    have bw := Aside0.mk (Below.refl w.heap.size w)
    go_enter Tryd.func59, Tryd.ntmps59
    go_wp2_with (first | ((with_reducible refine d_ 7 ?_); refine X_ 7 #[.slice A_ na ca, .bool bo, .int .i64 td, .string tn] 39 ?_; intro gb hg w2 hbox hB2; have n0_ := Aside0.mk (RB_below hp.out hB2); have n1_ := Aside0.mk (hS.out.step hB2); have n2_ := Aside0.mk (below_then bw.out bw.out.size hB2); clear hp hS hB2 hg bw; have hp := n0_; have hS := n1_; have bw := n2_; clear n0_ n1_ n2_; replace hbox := Aside0.mk hbox) | ((with_reducible refine gt_ 91 ?_); (try (refine gate_guard (by rfl) ?_; dsimp only)); refine gc_ 15 Tryd.func91 #[.string c] ?_; refine (keystoneref2_Name.below k c true _ h1.out).mono ?_; rintro e1 w1 ⟨rfl, hB2⟩; refine ⟨_, rfl, ?_⟩; have n0_ := Aside0.mk (RB_below hp.out hB2); have n1_ := Aside0.mk (hS.out.step hB2); have nw_ := Aside0.mk (below_then bw.out bw.out.size hB2); clear bw; have bw := nw_; clear nw_; have nb_ := Aside0.mk (blk_below hbox.out hB2); clear hbox; have hbox := nb_; clear nb_; clear hp hS hB2; have hp := n0_; have hS := n1_; clear n0_ n1_) | ((with_reducible refine gt_ 96 ?_); (try (refine gate_guard (by rfl) ?_; dsimp only)); refine gc_ 19 Tryd.func96 #[.string n] ?_; refine (hM.out _ bw.out).mono ?_; rintro e1 w1 ⟨rfl, hB2⟩; refine ⟨_, rfl, ?_⟩; have n0_ := Aside0.mk (RB_below hp.out hB2); have n1_ := Aside0.mk (hS.out.step hB2); have nw_ := Aside0.mk (below_then bw.out bw.out.size hB2); clear bw; have bw := nw_; clear nw_; have nb_ := Aside0.mk (blk_below hbox.out hB2); clear hbox; have hbox := nb_; clear nb_; clear hp hS hB2; have hp := n0_; have hS := n1_; clear n0_ n1_; obtain ⟨z0, z1, z2, z3, y0, y1, y2, y3⟩ := c4_ hbox.out) | ((with_reducible refine gt_ 97 ?_); (try (refine gate_guard (by rfl) ?_; dsimp only)); refine gc_ 24 Tryd.func97 #[.agg #[.slice A_ na ca, .bool bo, .int .i64 td, .string tn]] ?_; refine (hT.out _ bw.out).mono ?_; rintro e1 w1 ⟨rfl, hB2⟩; refine ⟨_, rfl, ?_⟩; have n0_ := Aside0.mk (RB_below hp.out hB2); have n1_ := Aside0.mk (hS.out.step hB2); clear hp hS hB2 hbox z0 z1 z2 z3 y0 y1 y2 y3; have hp := n0_; have hS := n1_; clear n0_ n1_))
    go_ret2
    exact ⟨F, A, c', by first | rfl | simp, hp.out, hS.out⟩
end Go.Proofs.YtldejfkplnejjaaDoor.P
namespace Go.Proofs.YtldejfkplnejjaaDoor.P
open Go.Maps Go.WideMaps Go.MapKept
open Go.RowKit Go.Proofs.YtldejfkplnejjaaDoorW.PrintWords Go.Proofs.YtldejfkplnejjaaDoorW.PrintLast Go.Proofs.YtldejfkplnejjaaDoorW.PrintMore
set_option linter.unusedVariables false
set_option linter.unusedSimpArgs false
set_option maxHeartbeats 8000000 in
set_option maxRecDepth 100000 in
theorem rNew.frame (k : Nat) (A : Option Addr) (c0 : Nat) (l : List S50) (r1 e : Int) (w : World) (HC : Kd.C k50 w A l.length l) (hc0 : l.length ≤ c0) (hK : keystoneref3_Check.f k l = some (r1, e)) (hl : l.length * 56 ≤ 140737488355328) :
    Calls Tryd.prog 27 #[.slice A l.length c0] w fun e_ w' => ∃ g F' A' c', e_ = .returned (.pointer (some ⟨g, 0, none⟩)) ∧ RB w' F' g (if e = 0 then l else []) A' c' ∧ Stp (fun _ => False) w F' w' := by
  replace HC := Aside0.mk HC
  replace hK := Aside0.mk hK
  replace hc0 := Aside0.mk hc0
  by_cases he : e = 0
  · rw [if_pos he]
    subst he
    go_enter Tryd.func27, Tryd.ntmps27
    go_wp2_with (first | ((with_reducible refine d_ 7 ?_); refine X_ 7 #[.slice none 0 0] 61 ?_; intro g hg w2 hbox hB2; have hb := Aside0.mk hB2; have hgg := Aside0.mk hg; replace hbox := Aside0.mk hbox; have HD := Aside0.mk (Kd.C_below HC.out hB2); clear hB2 hg HC) | ((with_reducible refine gt_ 16 ?_); (try (refine gate_guard (by rfl) ?_; dsimp only)); refine gc_ 10 Tryd.func16 #[.slice A l.length c0] ?_; refine (keystoneref3_Check.calls k A c0 l r1 0 _ HD.out hc0.out hK.out).mono ?_; rintro e1 w1 ⟨rfl, hB2⟩; refine ⟨_, rfl, ?_⟩; have n0_ := Aside0.mk (below_then hb.out hb.out.size hB2); have n1_ := Aside0.mk (blk_below hbox.out hB2); have n2_ := Aside0.mk (Kd.C_below HD.out hB2); have n3_ := Aside0.mk (Nat.lt_of_lt_of_le (blk_lt hbox.out) hB2.size); clear hb hbox HD hB2; have hb := n0_; have hbox := n1_; have HD := n2_; have hlt := n3_; clear n0_ n1_ n2_ n3_; have hcg := (blk_cell hbox.out 0).trans (show (#[Value.slice none 0 0] : Array Value)[0]? = some (.slice none 0 0) from rfl); have hfg := blk_frozen hbox.out 0) | ((with_reducible refine gate_builtin (b := .append) (xs := #[.tmp 19, .tmp 20]) rfl ?_); at_builtin; refine Kd.R_append_rows k50 (w0 := w1) 0 rfl (.tmp 19) (.tmp 20) 22 50 (.agg #[(.int .i64 0), (.string ⟨#[]⟩), (.int .i64 0), (.int .i64 0), (.int .i64 0), (.int .i64 0)]) 56 rfl Tryd.underlying22 info50 rfl (by decide) (by omega) (.slice none 0 0) [] l _ _ _ (fun k => k ≠ g ∧ w.heap.size ≤ k) (fun _ => False) rfl rfl ?aO ?aR (fun _ _ h => h) (fun _ h => h.elim) ?aF ?aB ?aS ?aL ?_; (case aR => exact HD.out); (case aB => exact Below.refl _ _); (case aF => exact (fun k hk => ⟨by have := hlt.out; omega, Nat.le_trans hb.out.size hk⟩)); (case aO => exact Kd.R_nil _ _ _ _ _); (case aS => exact Nat.zero_le _); (case aL => simp only [List.length_nil]; omega); intro v6 w6 ho hb6 hg6 hat; rw [List.nil_append] at ho; clear hcg hfg; obtain ⟨A1, c1, rfl⟩ := Kd.R_slice ho; have HO := Aside0.mk ho; have hg7 : w1.grownBy w6 none := hg6; have HG := Aside0.mk hg7; have hbx := Aside0.mk ((hg7.block g hlt.out (by simp)).trans hbox.out); clear hg7; have hcg : w6.cell? ⟨g, 0, none⟩ = some (.slice none 0 0) := blk_cell hbx.out 0; have hfg := blk_frozen hbx.out 0; clear ho hb6 hg6 hat hbox))
    go_ret
    have hlt6 := blk_lt hbx.out
    have hgw : w.heap.size ≤ g := by rw [hgg.out]; exact Nat.le_refl _
    have hz : (w6.setCell ⟨g, 0, none⟩ (.slice A1 l.length c1)).heap.size = w6.heap.size := by simp [World.setCell]; try split <;> simp
    refine ⟨g, fun k => w.heap.size ≤ k ∧ k < w6.heap.size, A1, c1, by first | rfl | simp, ⟨⟨hgw, hlt6⟩, blk_put hbx.out 0 _ rfl, ?_, fun k hk => by rw [hz]; exact hk.2⟩, ?_⟩
    · exact Kd.R_mono (Kd.R_bound (Kd.R_far (p := ⟨g, 0, none⟩) HO.out (fun k hk => hk.1) _)) (fun k hk => ⟨hk.1.1, hk.1.2, by have := hk.2; rw [hz] at this; exact this.2.1⟩)
    · have hk1 : Kp (fun _ => False) w w1 := Kp.of_below hb.out
      have hk2 : Kp (fun _ => False) w w6 := hk1.grown HG.out (fun k h _ => by simp at h)
      refine ⟨fun k hk => .inr hk.1, ⟨hk2.os, hk2.tape, hk2.output, by rw [hz]; exact hk2.size, fun k hk hf => (Below.heap_setCell w6 ⟨g, 0, none⟩ _ k (fun e => by simp only at e; omega)).trans (hk2.block k hk hf)⟩⟩
  · rw [if_neg he]
    have q1 : (e == 0) = false := beq_eq_false_iff_ne.mpr he
    have q2 : (e != 0) = true := bne_iff_ne.mpr he
    clear he
    go_enter Tryd.func27, Tryd.ntmps27
    go_wp2_with (first | ((with_reducible refine d_ 7 ?_); refine X_ 7 #[.slice none 0 0] 61 ?_; intro g hg w2 hbox hB2; have hb := Aside0.mk hB2; have hgg := Aside0.mk hg; replace hbox := Aside0.mk hbox; have HD := Aside0.mk (Kd.C_below HC.out hB2); clear hB2 hg HC) | ((with_reducible refine gt_ 16 ?_); (try (refine gate_guard (by rfl) ?_; dsimp only)); refine gc_ 10 Tryd.func16 #[.slice A l.length c0] ?_; refine (keystoneref3_Check.calls k A c0 l r1 e _ HD.out hc0.out hK.out).mono ?_; rintro e1 w1 ⟨rfl, hB2⟩; refine ⟨_, rfl, ?_⟩; have n0_ := Aside0.mk (below_then hb.out hb.out.size hB2); have n1_ := Aside0.mk (blk_below hbox.out hB2); have n2_ := Aside0.mk (Kd.C_below HD.out hB2); have n3_ := Aside0.mk (Nat.lt_of_lt_of_le (blk_lt hbox.out) hB2.size); clear hb hbox HD hB2; have hb := n0_; have hbox := n1_; have HD := n2_; have hlt := n3_; clear n0_ n1_ n2_ n3_; have hcg := (blk_cell hbox.out 0).trans (show (#[Value.slice none 0 0] : Array Value)[0]? = some (.slice none 0 0) from rfl); have hfg := blk_frozen hbox.out 0))
    go_ret
    have hgw : w.heap.size ≤ g := by rw [hgg.out]; exact Nat.le_refl _
    exact ⟨g, fun k => k = g, none, 0, by first | rfl | simp, ⟨rfl, hbox.out, Kd.R_nil _ _ _ _ _, fun k hk => hk ▸ hlt.out⟩, ⟨fun k hk => .inr (hk ▸ hgw), Kp.of_below hb.out⟩⟩
end Go.Proofs.YtldejfkplnejjaaDoor.P
