/- desc.Classes (it keeps a map of its own): what it tells, and its contract. -/
import Derived.Test.YtlajkmnmooilmaaDoorP0
import Derived.Test.YtlajkmnmooilmaaDoorExt
import Derived.Maps.OwnSet
import Derived.StringKeys
namespace Go.Proofs.YtlajkmnmooilmaaDoor.P
open Go.RowKit Go.Proofs.YtlajkmnmooilmaaDoorW.PrintWords Go.Proofs.YtlajkmnmooilmaaDoorW.PrintLast Go.Proofs.YtlajkmnmooilmaaDoorW.PrintMore
open Go.Maps Go.WideMaps Go.MapKept
set_option linter.unusedVariables false
set_option linter.unusedSimpArgs false
def clsHas (out : List ByteArray) (s : ByteArray) : Bool := out.any (fun x => x.toList == s.toList)
def clsStep (out : List ByteArray) (t : S26) : List ByteArray := if clsHas out t.f1 = true ∨ t.f1.toList = [] then out else out ++ [t.f1]
def clsF (l : List S26) : List ByteArray := l.foldl clsStep []
def desc_Classes.f (l0 : List (S26)) : Option (List ByteArray) := if l0.length < 5864062014805 ∧ (∀ t ∈ l0, t.f1.size ≤ maxLen) then some (clsF l0) else none
theorem cls_law : Keyed Tryd.prog 9 := string_keyed Tryd.underlying9
theorem cls_zero (w : World) : (zeroValue 3).run Tryd.prog w = .ok (.int .i64 0) w := by kernel_rfl
theorem clsF_take (l : List S26) (j : Nat) (t : S26) (h : l[j]? = some t) : clsF (l.take (j + 1)) = clsStep (clsF (l.take j)) t := by
  unfold clsF
  rw [List.take_add_one, h]
  simp
theorem clsF_len (l : List S26) : ∀ j, (clsF (l.take j)).length ≤ j
  | 0 => by simp [clsF]
  | j + 1 => by
    cases h : l[j]? with
    | none =>
      have e : l.take (j + 1) = l.take j := by rw [List.take_add_one, h]; simp
      rw [e]
      exact Nat.le_succ_of_le (clsF_len l j)
    | some t =>
      rw [clsF_take l j t h]
      have := clsF_len l j
      unfold clsStep
      split
      · omega
      · simp; omega
def clsD (D : DataW Unit) (out : List ByteArray) : Prop := Maps.IsMap D ∧ ∀ s : ByteArray, Maps.has D (.string s.data.toList) = clsHas out s
theorem clsD_nil : clsD (.map []) [] := ⟨⟨[], rfl⟩, fun s => rfl⟩
theorem clsD_put {D : DataW Unit} {out : List ByteArray} (h : clsD D out) (s : ByteArray) (d : DataW Unit) : clsD (D.put (.string s.data.toList) d) (out ++ [s]) := by
  refine ⟨?_, fun x => ?_⟩
  · obtain ⟨es, rfl⟩ := h.1
    exact ⟨_, rfl⟩
  · unfold clsHas
    rw [List.any_append]
    by_cases e : x.data.toList = s.data.toList
    · rw [e, Maps.has_put_same h.1 (by trivial)]
      simp [ByteArray.toList_eq, e]
    · rw [Maps.has_put_other (fun h' => e (by injection h')), h.2 x]
      unfold clsHas
      simp only [List.any_cons, List.any_nil, Bool.or_false]
      rw [show (s.toList == x.toList) = false by rw [ByteArray.toList_eq, ByteArray.toList_eq]; simp; exact fun h' => e (by rw [h'])]
      simp
theorem map_far {w : World} {B : Nat} {o : Obj} {p : Addr} (h : w.heap[B]? = some o) (hp : p.block ≠ B) (u : Value) : (w.setCell p u).heap[B]? = some o := (Below.heap_setCell w p u B (fun e => hp e.symm)).trans h
theorem cls_set {w : World} {base g j : Nat} {ok : Nat → Prop} {v : Value} {xs : List ByteArray} {cells : Array Value} (h : Kd.R Kd.string 9 w base ok v xs) (hb : w.heap[g]? = some (.cells cells 26 (0, 0))) (ht : ∀ q, q ∈ 9 :: (Kd.string).E → q ≠ 26) (u : Value) : Kd.R Kd.string 9 (w.setCell ⟨g, j, none⟩ u) base ok v xs :=
  Kd.R_mono (Kd.R_far (p := ⟨g, j, none⟩) (Kd.R_types h hb ht) (fun _ hk => hk.2) u) (fun _ hk => hk.1)
theorem cls_grown {w w1 : World} {base : Nat} {ok : Nat → Prop} {v : Value} {xs : List ByteArray} (h : Kd.R Kd.string 9 w base ok v xs) {row : Option Nat} (hg : w.grownBy w1 row) (hok : ∀ k, ok k → some k ≠ row) : Kd.R Kd.string 9 w1 base ok v xs := Kd.R_step h (fun k ho hk => hg.block k hk (hok k ho))
theorem cls_ty : ∀ q, q ∈ 9 :: (Kd.string).E → q ≠ 26 := fun q hq => by cases hq with | head => decide | tail _ h => cases h
set_option maxHeartbeats 8000000 in
set_option maxRecDepth 100000 in
theorem desc_Classes.calls (A0 : Option Addr) (c0 : Nat) (l0 : List (S26)) (r : List ByteArray) (w : World) (hr0 : Kd.C k26 w A0 l0.length l0) (hc0 : l0.length ≤ c0) (h : desc_Classes.f l0 = some r) :
    Calls Tryd.prog 36 #[.slice A0 l0.length c0] w fun e w' => ∃ v0_ : Value, e = .returned (v0_) ∧ Kd.R Kd.string 9 w' w.heap.size (fun _ => True) v0_ r ∧ Below w.heap.size w w' := by
  unfold desc_Classes.f at h
  split at h
  case isFalse => cases h
  case isTrue hh =>
  obtain ⟨hlen, hsz⟩ := hh
  obtain rfl := Option.some.inj h
  clear h
  have HR0 := Aside0.mk hr0
  have HC0 := Aside0.mk hc0
  have HL0 := Aside0.mk hlen
  have HS0 := Aside0.mk hsz
  clear hr0 hc0 hlen hsz
  have HB := Aside0.mk (Below.refl w.heap.size w)
  have hmm := @run_makeMap Tryd.prog
  go_enter Tryd.func36, Tryd.ntmps36
  go_wp2
  repeat (go_quiet (fail); try go_wp2)
  go_loopg [3, 12] l0.length (fun kq v3 v12 w' => ∃ (x12 : Int) (D : DataW Unit) (es : Array MapEntry) (clock : Nat), v12 = .int .i64 x12 ∧ Aside0 (0 ≤ x12 ∧ x12.toNat + kq = l0.length) ∧ Aside0 (clsD D (clsF (l0.take x12.toNat))) ∧ Aside0 (∀ W : World, W.heap[w.heap.size]? = some (.map es clock) → W.ownsMap Tryd.prog 9 (plainElem Tryd.prog 3) w.heap.size x12.toNat D) ∧ Aside0 (w'.heap[w.heap.size]? = some (.map es clock)) ∧ Aside0 (Kd.R Kd.string 9 w' w.heap.size (fun k => k ≠ w.heap.size) v3 (clsF (l0.take x12.toNat))) ∧ Aside0 (Below w.heap.size w w'))
  case atStart =>
    exact ⟨0, .map [], #[], 0, rfl, ⟨by simp⟩, ⟨by simpa [clsF] using clsD_nil⟩, ⟨fun W h => ⟨#[], 0, h, ⟨by simp, stamped_empty 0, by simp⟩, Nat.le_refl _, rfl⟩⟩, ⟨blk_new _ _⟩, ⟨Kd.R_nil _ _ _ _ _⟩, ⟨below_alloc HB.out _⟩⟩
  case round =>
    clear HB
    obtain ⟨x12, D, es, clock, rfl, HJ, HD, HF, BM, HO, HB⟩ := hrel
    by_cases c : x12 < (l0.length : Int)
    · obtain ⟨t, ht⟩ : ∃ t, l0[x12.toNat]? = some t := by
        have := HJ.out
        exact ⟨l0[x12.toNat]'(by omega), List.getElem?_eq_getElem (by omega)⟩
      have hrd : rd_T26 l0 x12 = t := by simp [rd_T26, List.getD, ht]
      have hkey : keyOf Tryd.prog 9 (.string t.f1) = some (.string t.f1.data.toList) := keyOf_string_mk Tryd.underlying9 (HS0.out t (List.mem_of_getElem? ht))
      have HT := Aside0.mk ht
      clear ht
      obtain ⟨ad, e, hx0, hx1⟩ := at_T26 HR0.out x12 HJ.out.1 c
      subst e
      rw [hrd] at hx0 hx1
      clear hrd
      replace hx0 := (HB.out.cell (World.block_lt_of_cell? w _ hx0)).trans hx0
      replace hx1 := (HB.out.cell (World.block_lt_of_cell? w _ hx1)).trans hx1
      have HC := Aside0.mk c
      have HW := Aside0.mk (show (wrap64 (x12 + 1)).toNat = x12.toNat + 1 from by have := HJ.out; have := HL0.out; unfold wrap64; omega)
      have HW0 := Aside0.mk (show 0 ≤ wrap64 (x12 + 1) from by have := HJ.out; have := HL0.out; unfold wrap64; omega)
      have HN := Aside0.mk (show clsF (l0.take (wrap64 (x12 + 1)).toNat) = clsStep (clsF (l0.take x12.toNat)) t from by rw [HW.out]; exact clsF_take _ _ _ HT.out)
      have c0 := decide_eq_true c
      have p0 := eq_true HJ.out.1
      replace c := eq_true c
      have HK := Aside0.mk hkey
      clear hkey
      obtain ⟨Ao, co, eo⟩ := Kd.R_slice HO.out
      subst eo
      go_wp2_with (first
        | ((with_reducible refine gate_dst (N := 6) rfl ?_); refine box_event ?hg (N := 6) ?hd (cs := #[.int .i64 0, .string (⟨#[]⟩ : ByteArray)]) (t := 26) ?hr ?_; (case hd => rfl); (case hg => rfl); (case hr => first | (go_simp; done) | (go_simp; rfl)); intro gb hg w1 hbox hb; have n0_ := Aside0.mk (below_step (by repeat (first | (with_reducible first | exact HB.out | apply below_alloc | apply pw_below_drewN | apply below_drew1) | exact HB.out)) hb); have n1_ := Aside0.mk (blk_below (o := .map es clock) (by (with_reducible repeat (first | refine blk_drewN ?_ _ | refine blk_drew ?_ | refine blk_alloc ?_ _)); exact BM.out) hb); have n2_ := Aside0.mk (Kd.R_below (by (with_reducible repeat (first | apply Kd.R_alloc | apply Kd.R_drewN | apply Kd.R_drew)); exact HO.out) hb); have n3_ := Aside0.mk hbox; have n4_ := Aside0.mk ((by rw [hg]; exact (below_size (by repeat (first | (with_reducible first | exact HB.out | apply below_alloc | apply pw_below_drewN | apply below_drew1) | exact HB.out)))) : w.heap.size ≤ gb); have n5_ := Aside0.mk ((by rw [hg]; exact Nat.ne_of_gt (blk_lt (o := .map es clock) (by (with_reducible repeat (first | refine blk_drewN ?_ _ | refine blk_drew ?_ | refine blk_alloc ?_ _)); exact BM.out))) : gb ≠ w.heap.size); clear HB BM HO; have HB := n0_; have BM := n1_; have HO := n2_; have BK := n3_; have GE := n4_; have NB := n5_; clear n0_ n1_ n2_ n3_ n4_ n5_; clear hb hbox hg; have hcz0 : w1.cell? ⟨gb, 0, none⟩ = some (.int .i64 0) := (blk_cell BK.out 0).trans rfl; have hcz1 : w1.cell? ⟨gb, 1, none⟩ = some (.string (⟨#[]⟩ : ByteArray)) := (blk_cell BK.out 1).trans rfl; have hfz0 := blk_frozen BK.out 0; have hfz1 := blk_frozen BK.out 1)
        | (at_lookup; have n1_ := Aside0.mk (map_far (p := ⟨gb, 1, none⟩) (map_far (p := ⟨gb, 0, none⟩) BM.out NB.out (.int .i64 t.f0)) NB.out (.string t.f1)); have n2_ := Aside0.mk (cls_set (j := 1) (cls_set (j := 0) HO.out BK.out cls_ty (.int .i64 t.f0)) (blk_put BK.out 0 (.int .i64 t.f0) rfl) cls_ty (.string t.f1)); have n3_ := Aside0.mk (blk_put (blk_put BK.out 0 (.int .i64 t.f0) rfl) 1 (.string t.f1) rfl); have n0_ := Aside0.mk (below_set (j := 1) (v := .string t.f1) (below_set (j := 0) (v := .int .i64 t.f0) HB.out GE.out) GE.out); clear HB BM HO BK hcz0 hcz1 hfz0 hfz1; have HB := n0_; have BM := n1_; have HO := n2_; have BK := n3_; clear n0_ n1_ n2_ n3_; refine wpList_lookup_own_ok_int _ rfl _ _ 72 rfl 9 3 .i64 cls_law Tryd.underlying72 Tryd.underlying3 (cls_zero _) w.heap.size x12.toNat D rfl (HF.out _ (by (with_reducible repeat (first | refine blk_drewN ?_ _ | refine blk_drew ?_ | refine blk_alloc ?_ _)); exact BM.out)) _ _ rfl HK.out ?_; intro c_ hat hwc; clear hat hwc; have hcz1 : World.cell? _ ⟨gb, 1, none⟩ = some (.string t.f1) := (blk_cell BK.out 1).trans rfl)
        | (at_mapUpdate; refine wpList_mapUpdate_own _ rfl _ _ _ 72 rfl 9 3 cls_law Tryd.underlying72 (plainElem Tryd.prog 3) w.heap.size x12.toNat D rfl (HF.out _ (by (with_reducible repeat (first | refine blk_drewN ?_ _ | refine blk_drew ?_ | refine blk_alloc ?_ _)); exact BM.out)) (by have := HJ.out; have := HL0.out; unfold maxLen; omega) _ _ _ rfl rfl HK.out _ [] (plainElem_int Tryd.underlying3 (by have := HJ.out; have := HL0.out; have := clsF_len l0 x12.toNat; exact WalkArith.wf_i64 (by omega))) ?_; intro w2 hown2 hg2; have n0_ := Aside0.mk (Below.grown (by repeat (first | (with_reducible first | exact HB.out | apply below_alloc | apply pw_below_drewN | apply below_drew1) | exact HB.out)) hg2 (below_size (by repeat (first | (with_reducible first | exact HB.out | apply below_alloc | apply pw_below_drewN | apply below_drew1) | exact HB.out))) (fun k hk => by cases hk; exact Nat.le_refl _)); have n2_ := Aside0.mk (cls_grown (ok := fun k => k ≠ w.heap.size) (by (with_reducible repeat (first | apply Kd.R_alloc | apply Kd.R_drewN | apply Kd.R_drew)); exact HO.out) hg2 (fun k hk e => hk (Option.some.inj e))); have n3_ := Aside0.mk (blk_grown (by (with_reducible repeat (first | refine blk_drewN ?_ _ | refine blk_drew ?_ | refine blk_alloc ?_ _)); exact BK.out) hg2 (fun e => NB.out (Option.some.inj e))); obtain ⟨es2, clock2, hb2, F2, hs2, hD2⟩ := hown2; have n1_ := Aside0.mk hb2; have HF2 := Aside0.mk (And.intro F2 (And.intro hs2 hD2)); clear hb2 F2 hs2 hD2 hg2; clear HB BM HO BK hcz1; have HB := n0_; have BM := n1_; have HO := n2_; have BK := n3_; clear n0_ n1_ n2_ n3_; have hcz1 : World.cell? _ ⟨gb, 1, none⟩ = some (.string t.f1) := (blk_cell BK.out 1).trans rfl)
        | ((with_reducible refine gate_builtin (b := .append) (xs := #[.tmp 35, .tmp 38]) rfl ?_); at_builtin; refine Kd.R_append Kd.string (w0 := w) w.heap.size rfl (.tmp 35) (.tmp 38) 50 9 (.string ⟨#[]⟩) 16 rfl Tryd.underlying50 info9 rfl (by decide) (by omega) (.slice Ao (clsF (l0.take x12.toNat)).length co) (clsF (l0.take x12.toNat)) t.f1 [.string t.f1] (fun k => k ≠ w.heap.size) (fun _ => False) rfl rfl ?aP (fun _ hk => hk.elim) ?aF ?aO ?aB ?aS ?aL ?_; (case aP => exact rfl); (case aB => exact (by repeat (first | (with_reducible first | exact HB.out | apply below_alloc | apply pw_below_drewN | apply below_drew1) | exact HB.out))); (case aF => exact (fun k hk e => by have hh := blk_lt (by (with_reducible repeat (first | refine blk_drewN ?_ _ | refine blk_drew ?_ | refine blk_alloc ?_ _)); exact BM.out); omega)); (case aO => exact (by (with_reducible repeat (first | apply Kd.R_alloc | apply Kd.R_drewN | apply Kd.R_drew)); exact HO.out)); (case aS => exact (below_size (by repeat (first | (with_reducible first | exact HB.out | apply below_alloc | apply pw_below_drewN | apply below_drew1) | exact HB.out)))); (case aL => have := HJ.out; have := HL0.out; have := clsF_len l0 x12.toNat; omega); intro v3 w3 ho hb hg hat; have hne : ∀ k, (Value.slice Ao (clsF (l0.take x12.toNat)).length co).ownBlock = some k → k ≠ w.heap.size := HO.out.1; have n0_ := Aside0.mk hb; have n1_ := Aside0.mk (blk_grown (by (with_reducible repeat (first | refine blk_drewN ?_ _ | refine blk_drew ?_ | refine blk_alloc ?_ _)); exact BM.out) hg (fun e => hne _ e.symm rfl)); have n2_ := Aside0.mk ho; clear HB BM HO; have HB := n0_; have BM := n1_; have HO := n2_; clear n0_ n1_ n2_; clear ho hb hg hat hne BK hcz1))
      · rename_i h1
        have hs : clsStep (clsF (l0.take x12.toNat)) t = clsF (l0.take x12.toNat) := by unfold clsStep; rw [if_pos (.inl ((HD.out.2 t.f1).symm.trans h1))]
        go_roundg (gk - 1)
        case measure => have := HJ.out; have := HC.out; omega
        case rel => exact ⟨wrap64 (x12 + 1), D, es, clock, by first | rfl | simp, ⟨HW0.out, by have := HJ.out; have := HC.out; rw [HW.out]; omega⟩, ⟨by rw [HN.out, hs]; exact HD.out⟩, ⟨fun W h => by rw [HW.out]; exact (HF.out W h).mono (Nat.le_succ _)⟩, ⟨by (with_reducible repeat (first | refine blk_drewN ?_ _ | refine blk_drew ?_ | refine blk_alloc ?_ _)); exact BM.out⟩, ⟨by rw [HN.out, hs]; (with_reducible repeat (first | apply Kd.R_alloc | apply Kd.R_drewN | apply Kd.R_drew)); exact HO.out⟩, ⟨(by repeat (first | (with_reducible first | exact HB.out | apply below_alloc | apply pw_below_drewN | apply below_drew1) | exact HB.out))⟩⟩
      · rename_i h1 h2
        have hs : clsStep (clsF (l0.take x12.toNat)) t = clsF (l0.take x12.toNat) ++ [t.f1] := by
          unfold clsStep
          rw [if_neg]
          rintro (h | h)
          · exact h1 ((HD.out.2 t.f1).trans h)
          · rw [h] at h2; simp at h2
        go_roundg (gk - 1)
        case measure => have := HJ.out; have := HC.out; omega
        case rel => exact ⟨wrap64 (x12 + 1), D.put (.string t.f1.data.toList) (.lit (.int .i64 ((clsF (l0.take x12.toNat)).length : Int))), es2, clock2, by first | rfl | simp, ⟨HW0.out, by have := HJ.out; have := HC.out; rw [HW.out]; omega⟩, ⟨by rw [HN.out, hs]; exact clsD_put HD.out _ _⟩, ⟨fun W h => by rw [HW.out]; exact ⟨es2, clock2, h, HF2.out.1, HF2.out.2.1, HF2.out.2.2⟩⟩, ⟨by (with_reducible repeat (first | refine blk_drewN ?_ _ | refine blk_drew ?_ | refine blk_alloc ?_ _)); exact BM.out⟩, ⟨by rw [HN.out, hs]; (with_reducible repeat (first | apply Kd.R_alloc | apply Kd.R_drewN | apply Kd.R_drew)); exact HO.out⟩, ⟨(by repeat (first | (with_reducible first | exact HB.out | apply below_alloc | apply pw_below_drewN | apply below_drew1) | exact HB.out))⟩⟩
      · rename_i h1 h2
        have hs : clsStep (clsF (l0.take x12.toNat)) t = clsF (l0.take x12.toNat) := by
          unfold clsStep
          rw [if_pos (.inr (by simpa using h2))]
        go_roundg (gk - 1)
        case measure => have := HJ.out; have := HC.out; omega
        case rel => exact ⟨wrap64 (x12 + 1), D, es, clock, by first | rfl | simp, ⟨HW0.out, by have := HJ.out; have := HC.out; rw [HW.out]; omega⟩, ⟨by rw [HN.out, hs]; exact HD.out⟩, ⟨fun W h => by rw [HW.out]; exact (HF.out W h).mono (Nat.le_succ _)⟩, ⟨by (with_reducible repeat (first | refine blk_drewN ?_ _ | refine blk_drew ?_ | refine blk_alloc ?_ _)); exact BM.out⟩, ⟨by rw [HN.out, hs]; (with_reducible repeat (first | apply Kd.R_alloc | apply Kd.R_drewN | apply Kd.R_drew)); exact HO.out⟩, ⟨(by repeat (first | (with_reducible first | exact HB.out | apply below_alloc | apply pw_below_drewN | apply below_drew1) | exact HB.out))⟩⟩
    · have c0 := decide_eq_false c
      have HE := Aside0.mk (show l0.take x12.toNat = l0 from List.take_of_length_le (by have := HJ.out; omega))
      clear c
      go_wp2
      repeat (go_quiet (fail); try go_wp2)
      go_ret
      refine ⟨_, by first | rfl | simp, ?_, (by repeat (first | (with_reducible first | exact HB.out | apply below_alloc | apply pw_below_drewN | apply below_drew1) | exact HB.out))⟩
      rw [← HE.out]
      exact Kd.R_mono (by (with_reducible repeat (first | apply Kd.R_alloc | apply Kd.R_drewN | apply Kd.R_drew)); exact HO.out) (fun _ _ => trivial)
end Go.Proofs.YtlajkmnmooilmaaDoor.P
