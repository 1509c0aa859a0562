/- PoolBack, walked. -/
import Derived.Test.YtldejfkplnejjaaDoorExtA
import Derived.Test.YtldejfkplnejjaaDoorP30
namespace Go.Proofs.YtldejfkplnejjaaDoor.P
open Go.Maps Go.WideMaps Go.MapKept
open Go.RowKit Go.Proofs.YtldejfkplnejjaaDoorW.PrintWords Go.Proofs.YtldejfkplnejjaaDoorW.PrintLast Go.Proofs.YtldejfkplnejjaaDoorW.PrintMore
set_option linter.unusedVariables false
set_option linter.unusedSimpArgs false
def fin (wd : S57 → CW) (cs : List S57) (i : Nat) : List S50 := (cs.take i).foldl (fun L x => agL x (wd x) L) []
def agJ (wd : S57 → CW) (cs : List S57) (j : Nat) : Int := agI (rd_T57 cs (j : Int)) (wd (rd_T57 cs (j : Int))) (fin wd cs j)
def erJ (wd : S57 → CW) (cs : List S57) (j : Nat) : Int := agE (rd_T57 cs (j : Int)) (wd (rd_T57 cs (j : Int))) (fin wd cs j)
def atJ (wd : S57 → CW) (cs : List S57) (j : Nat) : Int := if erJ wd cs j = 0 ∧ (rd_T57 cs (j : Int)).f5.f0.length ≤ 100 then agJ wd cs j else -1
def ats (wd : S57 → CW) (cs : List S57) (i : Nat) : List Int := (List.range i).map (atJ wd cs)
theorem rd_at {cs : List S57} {i : Nat} (h : i < cs.length) : cs[i]? = some (rd_T57 cs (i : Int)) := by
  unfold rd_T57
  rw [Int.toNat_natCast, List.getD_eq_getElem?_getD, List.getElem?_eq_getElem h]
  rfl
theorem fin_succ {wd : S57 → CW} {cs : List S57} {i : Nat} (h : i < cs.length) : fin wd cs (i + 1) = agL (rd_T57 cs (i : Int)) (wd (rd_T57 cs (i : Int))) (fin wd cs i) := by
  unfold fin
  rw [List.take_add_one, rd_at h]
  simp [List.foldl_append]
theorem fin_len (wd : S57 → CW) (cs : List S57) : ∀ i, i ≤ cs.length → (fin wd cs i).length ≤ 4096
  | 0, _ => by simp [fin]
  | i + 1, h => by rw [fin_succ (by omega)]; exact agL_len _ _ (fin_len wd cs i (by omega))
theorem ats_succ (wd : S57 → CW) (cs : List S57) (i : Nat) : ats wd cs (i + 1) = ats wd cs i ++ [atJ wd cs i] := by simp [ats, List.range_succ]
theorem ats_len (wd : S57 → CW) (cs : List S57) (i : Nat) : (ats wd cs i).length = i := by simp [ats]
theorem ats_at (wd : S57 → CW) (cs : List S57) {i j : Nat} (h : j < i) : Go.Proofs.YtldejfkplnejjaaDoorW.PrintWords.rd (ats wd cs i) (j : Int) = atJ wd cs j := by
  unfold Go.Proofs.YtldejfkplnejjaaDoorW.PrintWords.rd
  simp [rdOf, ats, List.getD_eq_getElem?_getD, h]
def stays (wd : S57 → CW) (cs : List S57) (m j : Nat) : Prop := agE (rd_T57 cs (j : Int)) (wd (rd_T57 cs (j : Int))) (fin wd cs m) = 0 ∧ agI (rd_T57 cs (j : Int)) (wd (rd_T57 cs (j : Int))) (fin wd cs m) = atJ wd cs j ∧ agL (rd_T57 cs (j : Int)) (wd (rd_T57 cs (j : Int))) (fin wd cs m) = fin wd cs m ∧
  ∃ k, keystonelaw3_meant.f k (fin wd cs m) (atJ wd cs j) (rd_T57 cs (j : Int)).f0 (rd_T57 cs (j : Int)).f1 (rd_T57 cs (j : Int)).f2 (rd_T57 cs (j : Int)).f3 (rd_T57 cs (j : Int)).f4.f0 (rd_T57 cs (j : Int)).f4.f1 (rd_T57 cs (j : Int)).f5.f0 (rd_T57 cs (j : Int)).f5.f1 (rd_T57 cs (j : Int)).f5.f2.f0 (rd_T57 cs (j : Int)).f5.f2.f1 = some true
def wellK (cs : List S57) : Prop := ∃ wd : S57 → CW, (∀ x ∈ cs, ∃ k, CallOk k x (wd x)) ∧ (∀ m, m ≤ cs.length → (∃ k r, pool_Check.f k (fin wd cs m) = some (r, 0)) ∧ (fin wd cs m).Nodup ∧ ∀ j, j < m → 0 ≤ atJ wd cs j → stays wd cs m j) ∧ ∀ L : List S50, L.length ≤ 4096 → ∃ k, keystonelaw3_Same.f k L L = some true
open Classical in
noncomputable def keystonelaw3_PoolBack.f (a0 : List S57) : Option Bool := if wellK a0 then some true else none
theorem ro_step {α : Type} {d : Kd α} {e base : Nat} {v : Value} {xs : List α} {w w1 : World} {F F1 : Nat → Prop} {B : Nat} (hE : d.E = []) (h : d.R e w base (fun k => ¬ F k ∧ B ≤ k) v xs) (hs : Stp F w F1 w1) : d.R e w1 base (fun k => ¬ F1 k ∧ B ≤ k) v xs :=
  Kd.R_step (Kd.R_reok (ok := fun k => ¬ F1 k ∧ B ≤ k ∧ ¬ F k) hE h (fun k hk => ⟨fun hf => (hs.own k hf).elim (h.1 k hk).1 (fun h2 => absurd (Kd.R_lt h k hk) (Nat.not_lt.2 h2)), (h.1 k hk).2, (h.1 k hk).1⟩)) (fun k hk hlt => hs.kp.block k hlt hk.2.2) |> fun h2 => Kd.R_mono h2 (fun k hk => ⟨hk.1, hk.2.1⟩)
attribute [local go_sem high] eqA50
set_option maxHeartbeats 8000000 in
set_option maxRecDepth 100000 in
theorem keystonelaw3_PoolBack.calls (A0 : Option Addr) (c0 : Nat) (l0 : List (S57)) (r : Bool) (w : World) (hr0 : Kd.C k57 w A0 l0.length l0) (hc0 : l0.length ≤ c0) (h : keystonelaw3_PoolBack.f l0 = some r) :
    Calls Tryd.prog 10 #[.slice A0 l0.length c0] w fun e w' => e = .returned (.bool r) ∧ Below w.heap.size w w' := by
  have hw : wellK l0 ∧ true = r := by
    unfold keystonelaw3_PoolBack.f at h
    split at h
    · rename_i hw
      exact ⟨hw, Option.some.inj h⟩
    · cases h
  obtain ⟨⟨wd, hcalls, hall, hsame⟩, rfl⟩ := hw
  clear h
  replace hcalls := Aside0.mk hcalls
  replace hall := Aside0.mk hall
  replace hsame := Aside0.mk hsame
  have HR0 := Aside0.mk hr0
  have HC0 := Aside0.mk hc0
  clear hr0 hc0
  go_enter Tryd.func10, Tryd.ntmps10
  go_wp2_with (first | ((with_reducible refine gt_ 14 ?_); (try (refine gate_guard (by rfl) ?_; dsimp only)); refine gc_ 16 Tryd.func14 #[] ?_; refine (known.frame _).mono ?_; rintro e1 w1 ⟨rfl, hb⟩; refine ⟨_, rfl, ?_⟩; have HB := Aside0.mk hb; clear hb) | ((with_reducible refine gt_ 26 ?_); (try (refine gate_guard (by rfl) ?_; dsimp only)); refine gc_ 18 Tryd.func26 #[.slice none 0 0] ?_; refine (pool_New.nil _).mono ?_; rintro e2 w2 ⟨g, F, rfl, hp, hs⟩; refine ⟨_, rfl, ?_⟩; have HA := Aside0.mk (show AI w w2 F g (fin wd l0 0) from ⟨hp, by simp [fin], hs.low (fun _ h => h.elim) HB.out.size, below_trans HB.out (hs.kp.below (fun _ h => h.elim) HB.out.size)⟩); clear HB hp hs))
  go_loopg [4, 5] l0.length (fun kq v4 v5 w' => ∃ (i : Nat) (F : Nat → Prop), v5 = .int .i64 (i : Int) ∧ Aside0 (i + kq = l0.length) ∧ Aside0 (i ≤ 60) ∧ Aside0 (AI w w' F g (fin wd l0 i)) ∧ Aside0 (Kd.R (Kd.int .i64) 3 w' 0 (fun k => ¬ F k ∧ w.heap.size ≤ k) v4 (ats wd l0 i)))
  case atStart => exact ⟨0, F, rfl, ⟨by omega⟩, ⟨by omega⟩, HA, ⟨Kd.R_nil _ _ _ _ _⟩⟩
  case round =>
    clear HA
    obtain ⟨i, F, rfl, hi, hi6, HA, HO⟩ := hrel
    by_cases hin : i < l0.length ∧ i < 60
    · obtain ⟨hlt, h60⟩ := hin
      have d1 : decide ((i : Int) < (l0.length : Int)) = true := decide_eq_true (by omega)
      have d2 : decide (i < l0.length) = true := decide_eq_true hlt
      have d3 : decide ((i : Int) < 60) = true := decide_eq_true (by omega)
      have d4 : decide (i < 60) = true := decide_eq_true h60
      have hx := List.mem_of_getElem? (rd_at (cs := l0) (i := i) (by omega))
      obtain ⟨k0, ok⟩ := hcalls.out _ hx
      replace ok := Aside0.mk ok
      clear hx
      have hfs : fin wd l0 (i + 1) = agL (rd_T57 l0 (i : Int)) (wd (rd_T57 l0 (i : Int))) (fin wd l0 i) := fin_succ (by omega)
      have hnI0 : agJ wd l0 i = agI (rd_T57 l0 (i : Int)) (wd (rd_T57 l0 (i : Int))) (fin wd l0 i) := rfl
      have heI0 : erJ wd l0 i = agE (rd_T57 l0 (i : Int)) (wd (rd_T57 l0 (i : Int))) (fin wd l0 i) := rfl
      have hatJ : atJ wd l0 i = if erJ wd l0 i = 0 ∧ (rd_T57 l0 (i : Int)).f5.f0.length ≤ 100 then agJ wd l0 i else -1 := rfl
      obtain ⟨ad, Ax, cx, eA, z0, z1, z2, z3, z4, z5, z6, z7, z8, z9, hcx, hCx⟩ := at_T57 HR0.out (i : Int) (by omega) (by omega)
      subst eA
      rw [Int.toNat_natCast] at z0 z1 z2 z3 z4 z5 z6 z7 z8 z9
      have hz := Aside0.mk (And.intro z0 (And.intro z1 (And.intro z2 (And.intro z3 (And.intro z4 (And.intro z5 (And.intro z6 (And.intro z7 (And.intro z8 z9)))))))))
      clear z0 z1 z2 z3 z4 z5 z6 z7 z8 z9
      have cag := Aside0.mk (fun (w1 : World) (F : Nat → Prop) (HA : AI w w1 F g (fin wd l0 i)) => AI_again ok.out hcx hCx HA)
      rw [← hnI0, ← heI0, ← hfs] at cag
      clear ok hCx hfs hnI0 heI0
      generalize rd_T57 l0 (i : Int) = x at hz hcx cag hatJ
      generalize agJ wd l0 i = nI at cag hatJ
      generalize erJ wd l0 i = eI at cag hatJ
      replace hatJ := Aside0.mk hatJ
      replace hcx := Aside0.mk hcx
      have e1 : wrap64 ((i : Int) + 1) = ((i + 1 : Nat) : Int) := by unfold wrap64; omega
      replace e1 := Aside0.mk e1
      by_cases he : eI = 0
      · by_cases hp : 100 < x.f5.f0.length
        · have hv : atJ wd l0 i = -1 := by rw [hatJ.out]; exact if_neg (fun h => by omega)
          subst he
          have d5 : decide ((100 : Int) < (x.f5.f0.length : Int)) = true := decide_eq_true (by omega)
          have d6 : decide (100 < x.f5.f0.length) = true := decide_eq_true hp
          clear hatJ
          obtain ⟨z0, z1, z2, z3, z4, z5, z6, z7, z8, z9⟩ := C57_below HA.out.2.2.2 hz.out
          go_wp2_with (first | ((with_reducible refine gt_ 30 ?_); (try (refine gate_guard (by rfl) ?_; dsimp only)); refine gc_ 37 Tryd.func30 #[.pointer (some ⟨g, 0, none⟩), .agg #[.int .i64 x.f0, .int .i64 x.f1, .string x.f2, .string x.f3, .int .i64 x.f4.f0, .string x.f4.f1, .slice Ax x.f5.f0.length cx, .bool x.f5.f1, .int .i64 x.f5.f2.f0, .string x.f5.f2.f1]] ?_; refine (cag.out _ _ HA.out).mono ?_; rintro e3 w3 ⟨F1, rfl, ha, hs⟩; refine ⟨_, rfl, ?_⟩; clear z0 z1 z2 z3 z4 z5 z6 z7 z8 z9; have n0_ := Aside0.mk (ro_step rfl HO.out hs); clear HA HO hs; have HA := Aside0.mk ha; have HO := n0_; clear ha n0_; have y6 := (C57_below HA.out.2.2.2 hz.out).2.2.2.2.2.2.1) | ((with_reducible refine gate_builtin (b := .append) (xs := #[.tmp 52, .tmp 54]) rfl ?_); at_builtin; refine Kd.R_append (Kd.int .i64) (w0 := w3) 0 rfl (.tmp 52) (.tmp 54) 66 3 (.int .i64 0) 8 rfl Tryd.underlying66 info3 rfl (by decide) (by omega) u4 (ats wd l0 i) (-1) [.int .i64 (-1)] (fun k => ¬ F1 k ∧ w.heap.size ≤ k) (fun _ => False) rfl rfl ?aP (fun _ hk => hk.elim) ?aF ?aO ?aB ?aS ?aL ?_; (case aP => exact rfl); (case aB => exact Below.refl _ _); (case aF => exact (fun k_ hk => ⟨fun hf => absurd (PB_lt HA.out.1 k_ hf) (Nat.not_lt.2 hk), Nat.le_trans HA.out.2.2.2.size hk⟩)); (case aO => exact HO.out); (case aS => exact Nat.zero_le _); (case aL => rw [ats_len]; omega); intro v55 w9 ho hb hg hat; have n0_ := Aside0.mk (AI_grown HA.out hg (fun k e => HO.out.1 k e)); clear HA HO hb hat hg; have HA := n0_; have HO := Aside0.mk ho; clear n0_ ho))
          go_roundg (gk - 1)
          case measure => have := hi.out; omega
          case rel => exact ⟨i + 1, F1, by first | rfl | (rw [← e1.out]), ⟨by have := hi.out; omega⟩, ⟨by omega⟩, HA, (by rw [ats_succ, hv]; exact HO)⟩
        · have hv : atJ wd l0 i = nI := by rw [hatJ.out]; exact if_pos ⟨he, by omega⟩
          subst he
          have d5 : decide ((100 : Int) < (x.f5.f0.length : Int)) = false := decide_eq_false (by omega)
          have d6 : decide (100 < x.f5.f0.length) = false := decide_eq_false hp
          clear hatJ
          obtain ⟨z0, z1, z2, z3, z4, z5, z6, z7, z8, z9⟩ := C57_below HA.out.2.2.2 hz.out
          go_wp2_with (first | ((with_reducible refine gt_ 30 ?_); (try (refine gate_guard (by rfl) ?_; dsimp only)); refine gc_ 37 Tryd.func30 #[.pointer (some ⟨g, 0, none⟩), .agg #[.int .i64 x.f0, .int .i64 x.f1, .string x.f2, .string x.f3, .int .i64 x.f4.f0, .string x.f4.f1, .slice Ax x.f5.f0.length cx, .bool x.f5.f1, .int .i64 x.f5.f2.f0, .string x.f5.f2.f1]] ?_; refine (cag.out _ _ HA.out).mono ?_; rintro e3 w3 ⟨F1, rfl, ha, hs⟩; refine ⟨_, rfl, ?_⟩; clear z0 z1 z2 z3 z4 z5 z6 z7 z8 z9; have n0_ := Aside0.mk (ro_step rfl HO.out hs); clear HA HO hs; have HA := Aside0.mk ha; have HO := n0_; clear ha n0_; have y6 := (C57_below HA.out.2.2.2 hz.out).2.2.2.2.2.2.1) | ((with_reducible refine gate_builtin (b := .append) (xs := #[.tmp 52, .tmp 54]) rfl ?_); at_builtin; refine Kd.R_append (Kd.int .i64) (w0 := w3) 0 rfl (.tmp 52) (.tmp 54) 66 3 (.int .i64 0) 8 rfl Tryd.underlying66 info3 rfl (by decide) (by omega) u4 (ats wd l0 i) nI [.int .i64 nI] (fun k => ¬ F1 k ∧ w.heap.size ≤ k) (fun _ => False) rfl rfl ?aP (fun _ hk => hk.elim) ?aF ?aO ?aB ?aS ?aL ?_; (case aP => exact rfl); (case aB => exact Below.refl _ _); (case aF => exact (fun k_ hk => ⟨fun hf => absurd (PB_lt HA.out.1 k_ hf) (Nat.not_lt.2 hk), Nat.le_trans HA.out.2.2.2.size hk⟩)); (case aO => exact HO.out); (case aS => exact Nat.zero_le _); (case aL => rw [ats_len]; omega); intro v55 w9 ho hb hg hat; have n0_ := Aside0.mk (AI_grown HA.out hg (fun k e => HO.out.1 k e)); clear HA HO hb hat hg; have HA := n0_; have HO := Aside0.mk ho; clear n0_ ho))
          go_roundg (gk - 1)
          case measure => have := hi.out; omega
          case rel => exact ⟨i + 1, F1, by first | rfl | (rw [← e1.out]), ⟨by have := hi.out; omega⟩, ⟨by omega⟩, HA, (by rw [ats_succ, hv]; exact HO)⟩
      · have hv : atJ wd l0 i = -1 := by rw [hatJ.out]; exact if_neg (fun h => he h.1)
        have q1 : (eI == 0) = false := beq_eq_false_iff_ne.mpr he
        have q2 : (eI != 0) = true := bne_iff_ne.mpr he
        clear hatJ he
        obtain ⟨z0, z1, z2, z3, z4, z5, z6, z7, z8, z9⟩ := C57_below HA.out.2.2.2 hz.out
        go_wp2_with (first | ((with_reducible refine gt_ 30 ?_); (try (refine gate_guard (by rfl) ?_; dsimp only)); refine gc_ 37 Tryd.func30 #[.pointer (some ⟨g, 0, none⟩), .agg #[.int .i64 x.f0, .int .i64 x.f1, .string x.f2, .string x.f3, .int .i64 x.f4.f0, .string x.f4.f1, .slice Ax x.f5.f0.length cx, .bool x.f5.f1, .int .i64 x.f5.f2.f0, .string x.f5.f2.f1]] ?_; refine (cag.out _ _ HA.out).mono ?_; rintro e3 w3 ⟨F1, rfl, ha, hs⟩; refine ⟨_, rfl, ?_⟩; clear z0 z1 z2 z3 z4 z5 z6 z7 z8 z9; have n0_ := Aside0.mk (ro_step rfl HO.out hs); clear HA HO hs; have HA := Aside0.mk ha; have HO := n0_; clear ha n0_; have y6 := (C57_below HA.out.2.2.2 hz.out).2.2.2.2.2.2.1) | ((with_reducible refine gate_builtin (b := .append) (xs := #[.tmp 52, .tmp 54]) rfl ?_); at_builtin; refine Kd.R_append (Kd.int .i64) (w0 := w3) 0 rfl (.tmp 52) (.tmp 54) 66 3 (.int .i64 0) 8 rfl Tryd.underlying66 info3 rfl (by decide) (by omega) u4 (ats wd l0 i) (-1) [.int .i64 (-1)] (fun k => ¬ F1 k ∧ w.heap.size ≤ k) (fun _ => False) rfl rfl ?aP (fun _ hk => hk.elim) ?aF ?aO ?aB ?aS ?aL ?_; (case aP => exact rfl); (case aB => exact Below.refl _ _); (case aF => exact (fun k_ hk => ⟨fun hf => absurd (PB_lt HA.out.1 k_ hf) (Nat.not_lt.2 hk), Nat.le_trans HA.out.2.2.2.size hk⟩)); (case aO => exact HO.out); (case aS => exact Nat.zero_le _); (case aL => rw [ats_len]; omega); intro v55 w9 ho hb hg hat; have n0_ := Aside0.mk (AI_grown HA.out hg (fun k e => HO.out.1 k e)); clear HA HO hb hat hg; have HA := n0_; have HO := Aside0.mk ho; clear n0_ ho))
        go_roundg (gk - 1)
        case measure => have := hi.out; omega
        case rel => exact ⟨i + 1, F1, by first | rfl | (rw [← e1.out]), ⟨by have := hi.out; omega⟩, ⟨by omega⟩, HA, (by rw [ats_succ, hv]; exact HO)⟩
    · have hil : i ≤ l0.length := by have := hi.out; omega
      obtain ⟨⟨k1, r1, hK⟩, hnd, hst⟩ := hall.out i hil
      replace hK := Aside0.mk hK
      replace hnd := Aside0.mk hnd
      replace hst := Aside0.mk hst
      obtain ⟨Aat, cat, rfl⟩ := Kd.R_slice HO.out
      rw [ats_len] at *
      rcases Nat.lt_or_ge i l0.length with hlt | hlt
      have d1 : decide ((i : Int) < (l0.length : Int)) = true := decide_eq_true (by omega)
      have d2 : decide (i < l0.length) = true := decide_eq_true hlt
      have d3 : decide ((i : Int) < 60) = false := decide_eq_false (by omega)
      have d4 : decide (i < 60) = false := decide_eq_false (by omega)
      rotate_left
      have d1 : decide ((i : Int) < (l0.length : Int)) = false := decide_eq_false (by omega)
      have d2 : decide (i < l0.length) = false := decide_eq_false (by omega)
      all_goals
        go_wp2_with (first | ((with_reducible refine gt_ 29 ?_); (try (refine gate_guard (by rfl) ?_; dsimp only)); refine gc_ 57 Tryd.func29 #[.pointer (some ⟨g, 0, none⟩)] ?_; refine (AI_pool HA.out).mono ?_; rintro e4 w4 ⟨v8, rfl, ho, hb⟩; refine ⟨_, rfl, ?_⟩; obtain ⟨Av, cv, rfl⟩ := Kd.R_slice ho; have HL := Aside0.mk (Kd.R_reok (ok := fun k => ¬ F k ∧ w.heap.size ≤ k) rfl (Kd.R_lower ho (Nat.zero_le _)) (fun k hk => by have h2 := own_lo ho k hk; exact ⟨fun hf => by have h1 := PB_lt HA.out.1 k hf; omega, Nat.le_trans HA.out.2.2.2.size h2⟩)); have n1_ := Aside0.mk (Kd.R_below HO.out hb); have n0_ := Aside0.mk (AI_below HA.out hb); clear HA HO ho hb; have HA := n0_; have HO := n1_; clear n0_ n1_) | ((with_reducible refine gt_ 15 ?_); (try (refine gate_guard (by rfl) ?_; dsimp only)); refine gc_ 60 Tryd.func15 #[.slice Av (fin wd l0 i).length cv] ?_; refine (pool_Check.calls k1 Av cv (fin wd l0 i) r1 0 _ (Kd.R_reads' HL.out).2.2 (Kd.R_reads' HL.out).2.1 hK.out).mono ?_; rintro e5 w5 ⟨rfl, hb⟩; refine ⟨_, rfl, ?_⟩; have n0_ := Aside0.mk (AI_below HA.out hb); have n1_ := Aside0.mk (Kd.R_below HO.out hb); have n2_ := Aside0.mk (Kd.R_below HL.out hb); clear HA HO HL hb; have HA := n0_; have HO := n1_; have HL := n2_; clear n0_ n1_ n2_))
        clear d1 d2 hlt
        try clear d3 d4
        go_loopg [11] i (fun kq v11 w' => ∃ (j : Nat) (F : Nat → Prop), v11 = .int .i64 (j : Int) ∧ Aside0 (j + kq = i) ∧ Aside0 (AI w w' F g (fin wd l0 i)) ∧ Aside0 (Kd.R (Kd.int .i64) 3 w' 0 (fun k => ¬ F k ∧ w.heap.size ≤ k) (.slice Aat i cat) (ats wd l0 i)) ∧ Aside0 (Kd.R k50 50 w' 0 (fun k => ¬ F k ∧ w.heap.size ≤ k) (.slice Av (fin wd l0 i).length cv) (fin wd l0 i)))
        case atStart => exact ⟨0, F, rfl, ⟨by omega⟩, HA, HO, HL⟩
        case round =>
          clear HA HO HL
          obtain ⟨j, F, rfl, hjk, HA, HO, HL⟩ := hrel
          by_cases hj : j < i
          · have d1 : decide ((j : Int) < (i : Int)) = true := decide_eq_true (by omega)
            have d2 : decide (j < i) = true := decide_eq_true hj
            have e1 : wrap64 ((j : Int) + 1) = ((j + 1 : Nat) : Int) := by unfold wrap64; have := hi6.out; omega
            replace e1 := Aside0.mk e1
            obtain ⟨ad0, eAt, y74⟩ := Kd.at_int (Kd.R_reads' HO.out).2.2 (j : Int) (by omega) (by rw [ats_len]; omega)
            subst eAt
            rw [ats_at wd l0 hj, Int.toNat_natCast] at y74
            have hst1 := hst.out j hj
            obtain ⟨a, hqa⟩ : ∃ a, a = atJ wd l0 j := ⟨_, rfl⟩
            unfold stays at hst1
            rw [← hqa] at y74 hst1
            replace hqa := Aside0.mk hqa
            by_cases hneg : a < 0
            · have d3 : decide (a < 0) = true := decide_eq_true hneg
              clear hst1
              go_wp2
              go_roundg (gk - 1)
              case measure => have := hjk.out; omega
              case rel => exact ⟨j + 1, F, by first | rfl | (rw [← e1.out]), ⟨by have := hjk.out; omega⟩, HA, HO, HL⟩
            · have d3 : decide (a < 0) = false := decide_eq_false hneg
              have qa : (a != a) = false := by simp
              have qa2 : (a == a) = true := by simp
              obtain ⟨se, si, sl, k5, hme⟩ := hst1 (by omega)
              obtain ⟨k0, ok⟩ := hcalls.out _ (List.mem_of_getElem? (rd_at (cs := l0) (i := j) (by omega)))
              obtain ⟨ad, Ax, cx, eA, z0, z1, z2, z3, z4, z5, z6, z7, z8, z9, hcx, hCx⟩ := at_T57 HR0.out (j : Int) (by omega) (by omega)
              subst eA
              rw [Int.toNat_natCast] at z0 z1 z2 z3 z4 z5 z6 z7 z8 z9
              have hz := Aside0.mk (And.intro z0 (And.intro z1 (And.intro z2 (And.intro z3 (And.intro z4 (And.intro z5 (And.intro z6 (And.intro z7 (And.intro z8 z9)))))))))
              clear z0 z1 z2 z3 z4 z5 z6 z7 z8 z9
              have cag := Aside0.mk (fun (w1 : World) (F : Nat → Prop) (HA : AI w w1 F g (fin wd l0 i)) => AI_again ok hcx hCx HA)
              rw [se, si, sl] at cag
              clear ok se si sl hst1
              generalize rd_T57 l0 (j : Int) = x at hz hcx cag hCx hme
              replace hcx := Aside0.mk hcx
              replace hCx := Aside0.mk hCx
              replace hme := Aside0.mk hme
              obtain ⟨z0, z1, z2, z3, z4, z5, z6, z7, z8, z9⟩ := C57_below HA.out.2.2.2 hz.out
              go_wp2_with (first | ((with_reducible refine gt_ 30 ?_); (try (refine gate_guard (by rfl) ?_; dsimp only)); refine gc_ 82 Tryd.func30 #[.pointer (some ⟨g, 0, none⟩), .agg #[.int .i64 x.f0, .int .i64 x.f1, .string x.f2, .string x.f3, .int .i64 x.f4.f0, .string x.f4.f1, .slice Ax x.f5.f0.length cx, .bool x.f5.f1, .int .i64 x.f5.f2.f0, .string x.f5.f2.f1]] ?_; refine (cag.out _ _ HA.out).mono ?_; rintro e3 w3 ⟨F1, rfl, ha, hs⟩; refine ⟨_, rfl, ?_⟩; clear z0 z1 z2 z3 z4 z5 z6 z7 z8 z9 y74; have n0_ := Aside0.mk (ro_step rfl HO.out hs); have n1_ := Aside0.mk (ro_step rfl HL.out hs); clear HA HO HL hs; have HA := Aside0.mk ha; have HO := n0_; have HL := n1_; clear ha n0_ n1_; obtain ⟨z0, z1, z2, z3, z4, z5, z6, z7, z8, z9⟩ := C57_below HA.out.2.2.2 hz.out; obtain ⟨ad2, eAt, y74⟩ := Kd.at_int (Kd.R_reads' HO.out).2.2 (j : Int) (by omega) (by rw [ats_len]; omega); obtain rfl := Option.some.inj eAt; rw [ats_at wd l0 hj, Int.toNat_natCast, ← hqa.out] at y74) | ((with_reducible refine gt_ 31 ?_); (try (refine gate_guard (by rfl) ?_; dsimp only)); refine gc_ 102 Tryd.func31 #[.slice Av (fin wd l0 i).length cv, .int .i64 a, .agg #[.int .i64 x.f0, .int .i64 x.f1, .string x.f2, .string x.f3, .int .i64 x.f4.f0, .string x.f4.f1, .slice Ax x.f5.f0.length cx, .bool x.f5.f1, .int .i64 x.f5.f2.f0, .string x.f5.f2.f1]] ?_; refine (keystonelaw3_meant.calls k5 Av cv (fin wd l0 i) a x.f0 x.f1 x.f2 x.f3 x.f4.f0 x.f4.f1 Ax cx x.f5.f0 x.f5.f1 x.f5.f2.f0 x.f5.f2.f1 true _ (Kd.R_reads' HL.out).2.2 (Kd.R_reads' HL.out).2.1 (Kd.C_below hCx.out HA.out.2.2.2) hcx.out hme.out).mono ?_; rintro e4 w4 ⟨rfl, hb⟩; refine ⟨_, rfl, ?_⟩; clear z0 z1 z2 z3 z4 z5 z6 z7 z8 z9; have n0_ := Aside0.mk (AI_below HA.out hb); have n1_ := Aside0.mk (Kd.R_below HO.out hb); have n2_ := Aside0.mk (Kd.R_below HL.out hb); clear HA HO HL hb; have HA := n0_; have HO := n1_; have HL := n2_; clear n0_ n1_ n2_))
              go_roundg (gk - 1)
              case measure => have := hjk.out; omega
              case rel => exact ⟨j + 1, F1, by first | rfl | (rw [← e1.out]), ⟨by have := hjk.out; omega⟩, HA, HO, HL⟩
          · have d1 : decide ((j : Int) < (i : Int)) = false := decide_eq_false (by omega)
            have d2 : decide (j < i) = false := decide_eq_false hj
            obtain ⟨k2, hsm⟩ := hsame.out (fin wd l0 i) HA.out.2.1
            replace hsm := Aside0.mk hsm
            clear hst HO
            go_wp2_with (first | ((with_reducible refine gt_ 29 ?_); (try (refine gate_guard (by rfl) ?_; dsimp only)); refine gc_ 106 Tryd.func29 #[.pointer (some ⟨g, 0, none⟩)] ?_; refine (AI_pool HA.out).mono ?_; rintro e6 w6 ⟨vq, rfl, ho, hb⟩; refine ⟨_, rfl, ?_⟩; obtain ⟨Aq, cq, rfl⟩ := Kd.R_slice ho; have HQ := Aside0.mk ho; have n1_ := Aside0.mk (Kd.R_below HL.out hb); have HBZ := Aside0.mk (AI_below HA.out hb).2.2.2; clear HA HL hb ho; have HL := n1_; clear n1_) | ((with_reducible refine gt_ 17 ?_); (try (refine gate_guard (by rfl) ?_; dsimp only)); refine gc_ 108 Tryd.func17 #[.slice Aq (fin wd l0 i).length cq, .slice Av (fin wd l0 i).length cv] ?_; refine (rows_same HQ.out HL.out hsm.out).mono ?_; rintro e7 w7 ⟨rfl, hb⟩; refine ⟨_, rfl, ?_⟩; have n1_ := Aside0.mk (Kd.R_below HL.out hb); have n0_ := Aside0.mk (below_then HBZ.out HBZ.out.size hb); clear HL HQ HBZ hb; have HL := n1_; have HBZ := n0_; clear n0_ n1_))
            clear d1 d2 hj hsm
            have HM := Aside0.mk (Kd.R_mono (ok' := fun _ => True) HL.out (fun _ _ => trivial))
            clear HL hK
            have hL9 := Aside0.mk (fin_len wd l0 i hil)
            generalize fin wd l0 i = L at HM hnd hL9
            go_loopg [14] L.length (fun kq v14 w' => ∃ (i2 : Nat), v14 = .int .i64 (i2 : Int) ∧ Aside0 (i2 + kq = L.length) ∧ Aside0 (Kd.R k50 50 w' 0 (fun _ => True) (.slice Av L.length cv) L) ∧ Aside0 (Below w.heap.size w w'))
            case atStart => exact ⟨0, rfl, ⟨by omega⟩, HM, HBZ⟩
            case round =>
              clear HM HBZ
              obtain ⟨i2, rfl, hi2, HM, HBZ⟩ := hrel
              by_cases h1 : i2 < L.length
              · have d1 : decide ((i2 : Int) < (L.length : Int)) = true := decide_eq_true (by omega)
                have d2 : decide (i2 < L.length) = true := decide_eq_true h1
                have e1 : wrap64 ((i2 : Int) + 1) = ((i2 + 1 : Nat) : Int) := by unfold wrap64; have := (Kd.R_reads' HM.out).2.1; have h9 := hL9.out; omega
                replace e1 := Aside0.mk e1
                obtain ⟨go_, hgo_⟩ : ∃ z : Nat, z = gk := ⟨gk, rfl⟩
                go_wp2
                clear d1 d2
                go_loopg [15] i2 (fun kq v15 w' => ∃ (k2 : Nat), v15 = .int .i64 (k2 : Int) ∧ Aside0 (k2 + kq = i2) ∧ Aside0 (Kd.R k50 50 w' 0 (fun _ => True) (.slice Av L.length cv) L) ∧ Aside0 (Below w.heap.size w w'))
                case atStart => exact ⟨0, rfl, ⟨by omega⟩, HM, HBZ⟩
                case round =>
                  clear HM HBZ
                  obtain ⟨k2, rfl, hk2i, HM, HBZ⟩ := hrel
                  by_cases hk2 : k2 < i2
                  · have d1 : decide ((k2 : Int) < (i2 : Int)) = true := decide_eq_true (by omega)
                    have d2 : decide (k2 < i2) = true := decide_eq_true hk2
                    have e2 : wrap64 ((k2 : Int) + 1) = ((k2 + 1 : Nat) : Int) := by unfold wrap64; have h9 := hL9.out; omega
                    replace e2 := Aside0.mk e2
                    obtain ⟨ga, eA, _, _⟩ := own_form HM.out (by omega)
                    subst eA
                    have i1 : decide ((i2 : Int) < (L.length : Int)) = true := decide_eq_true (by omega)
                    have i2' : decide (i2 < L.length) = true := decide_eq_true h1
                    have i3 : decide ((k2 : Int) < (L.length : Int)) = true := decide_eq_true (by omega)
                    have hkL : k2 < L.length := by omega
                    obtain ⟨ya, hya⟩ : ∃ y, L[i2]? = some y := ⟨L[i2], List.getElem?_eq_getElem h1⟩
                    obtain ⟨yb, hyb⟩ : ∃ y, L[k2]? = some y := ⟨L[k2], List.getElem?_eq_getElem (by omega)⟩
                    have hne : (ya.f0 == yb.f0 && (ya.f1.toList == yb.f1.toList && (ya.f2 == yb.f2 && (ya.f3 == yb.f3 && (ya.f4 == yb.f4 && ya.f5 == yb.f5))))) = false := by
                      rw [← Bool.not_eq_true]
                      intro h'
                      have he : ya = yb := eqE_iff.1 (by simpa only [eqE, Bool.and_assoc] using h')
                      obtain ⟨l1, g1⟩ := List.getElem?_eq_some_iff.1 hya
                      obtain ⟨l2, g2⟩ := List.getElem?_eq_some_iff.1 hyb
                      exact List.pairwise_iff_getElem.1 hnd.out k2 i2 l2 l1 hk2 (g2.trans (he.symm.trans g1.symm))
                    have HM0 := Aside0.mk (Kd.R_below HM.out (below_drew (Below.refl _ _)))
                    have HB0 := Aside0.mk (below_then HBZ.out HBZ.out.size (below_drew (Below.refl _ _)))
                    go_wp2
                    obtain ⟨x0, x1, x2, x3, x4, x5⟩ := cells_row (Kd.R_reads' HM.out).2.2 (p := i2) (q := i2 * 6) (x := ya) h1 hya rfl
                    obtain ⟨w0_, w1_, w2_, w3_, w4_, w5_⟩ := cells_row (Kd.R_reads' HM.out).2.2 (p := k2) (q := k2 * 6) (x := yb) (by omega) hyb rfl
                    refine start_ (n := 9) (S := (fun w' => w'.cell? ⟨ga, i2 * 6, none⟩ = some (.int .i64 ya.f0) ∧ w'.cell? ⟨ga, i2 * 6 + 1, none⟩ = some (.string ya.f1) ∧ w'.cell? ⟨ga, i2 * 6 + 2, none⟩ = some (.int .i64 ya.f2) ∧ w'.cell? ⟨ga, i2 * 6 + 3, none⟩ = some (.int .i64 ya.f3) ∧ w'.cell? ⟨ga, i2 * 6 + 4, none⟩ = some (.int .i64 ya.f4) ∧ w'.cell? ⟨ga, i2 * 6 + 5, none⟩ = some (.int .i64 ya.f5) ∧ w'.cell? ⟨ga, k2 * 6, none⟩ = some (.int .i64 yb.f0) ∧ w'.cell? ⟨ga, k2 * 6 + 1, none⟩ = some (.string yb.f1) ∧ w'.cell? ⟨ga, k2 * 6 + 2, none⟩ = some (.int .i64 yb.f2) ∧ w'.cell? ⟨ga, k2 * 6 + 3, none⟩ = some (.int .i64 yb.f3) ∧ w'.cell? ⟨ga, k2 * 6 + 4, none⟩ = some (.int .i64 yb.f4) ∧ w'.cell? ⟨ga, k2 * 6 + 5, none⟩ = some (.int .i64 yb.f5))) (ds := []) (bb 9 0) (by kernel_rfl) rfl (by kernel_rfl) ⟨x0, x1, x2, x3, x4, x5, w0_, w1_, w2_, w3_, w4_, w5_⟩ (fun hHeld => ?_)
                    refine u_ 0 121 (bb 9 1) ?_
                    refine u_ 1 122 (bb 9 3) ?_
                    refine u_ 2 123 (bb 9 7) ?_
                    refine t_ 3 124 (bb 9 15) ?_
                    refine u_ 4 125 (bb 9 31) ?_
                    refine u_ 5 126 (bb 9 63) ?_
                    refine u_ 6 127 (bb 9 127) ?_
                    refine t_ 7 128 (bb 9 255) ?_
                    refine u_ 8 129 (bb 9 511) ?_
                    refine done_ (by kernel_rfl) ?_
                    clear hHeld x0 x1 x2 x3 x4 x5 w0_ w1_ w2_ w3_ w4_ w5_
                    try rw [hne]
                    try go_wp2
                    go_roundg (gk - 1)
                    case measure => have := hk2i.out; omega
                    case rel => exact ⟨k2 + 1, by first | rfl | (rw [← e2.out]), ⟨by have := hk2i.out; omega⟩, HM0, HB0⟩
                  · have d1 : decide ((k2 : Int) < (i2 : Int)) = false := decide_eq_false (by omega)
                    have d2 : decide (k2 < i2) = false := decide_eq_false hk2
                    go_wp2
                    go_roundg (go_ - 1)
                    case measure => have := hi2.out; omega
                    case rel => exact ⟨i2 + 1, by first | rfl | (rw [← e1.out]), ⟨by have := hi2.out; omega⟩, HM, HBZ⟩
              · have d1 : decide ((i2 : Int) < (L.length : Int)) = false := decide_eq_false (by omega)
                have d2 : decide (i2 < L.length) = false := decide_eq_false h1
                go_wp2
                go_ret
                exact ⟨by first | rfl | simp, HBZ.out⟩
end Go.Proofs.YtldejfkplnejjaaDoor.P
