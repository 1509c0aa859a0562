/- The law keystone/keystonelaw2.DescTurns holds at every input: the row that says so, and its card. -/
import Derived.Test.YtlajkmnmooilmaaDoorCards
import Derived.Test.YtlajkmnmooilmaaDoorTie
import Derived.Test.YtlajkmnmooilmaaDoorKinds
import Derived.Test.YtlajkmnmooilmaaDoorP30
import Derived.Test.YtlajkmnmooilmaaDoorPureDescTurns
import Derived.WalkKit
import Derived.ProofKit
import Derived.OpenShut
import Derived.ShutString
import Derived.ChangeOld
import Derived.Below
import Derived.SizedLaws
import Derived.LaidMore
import Derived.LaidHandle
import Derived.LaidLaws
import Derived.Deep.DeepHandedRow
import Derived.SevenTiedAt
import Derived.Lay
namespace Go.Proofs.YtlajkmnmooilmaaDoor.descTurns
open Go.ChangeShapes Go.WideShapes Go.ChangeAt Go.RowKit Go.Proofs.YtlajkmnmooilmaaDoorW.PrintWords Go.Proofs.YtlajkmnmooilmaaDoor.P Go.Proofs.YtlajkmnmooilmaaDoor.Open
open Go.ChangeMaps (open_string shut_string)
theorem own : ownKnob Tryd.prog.godebug = none := by kernel_rfl
theorem laidOut : laidOutB Tryd.prog = true := by kernel_rfl
theorem laid_met (os : Os) : laidMetH Tryd.prog Rows.descTurnsRow.laid ((World.laidAll Tryd.prog os Rows.descTurnsRow.laid).forCall (fun _ _ => 0) ⟨#[], #[.agg #[.slice none 0 0, .bool false, .int .i64 0, .string ByteArray.empty], .int .i64 0, .int .u8 0, .int .i64 0, .string ByteArray.empty], []⟩).memory :=
  laidMetH_of_parts3 (fuel := 8) (laidMet_laidAll _ (by kernel_rfl) (by kernel_rfl)) (by kernel_rfl) (by kernel_rfl)
theorem reads (os : Os) {H : Type} (enc : TypeId × Value → H) : ∃ places, DataW.whole enc Tryd.prog ((World.laidAll Tryd.prog os Rows.descTurnsRow.laid).forCall (fun _ _ => 0) ⟨#[], #[.agg #[.slice none 0 0, .bool false, .int .i64 0, .string ByteArray.empty], .int .i64 0, .int .u8 0, .int .i64 0, .string ByteArray.empty], []⟩).memory Tryd.f10.params.toList Rows.descTurnsSpec.vars false (#[.agg #[.slice none 0 0, .bool false, .int .i64 0, .string ByteArray.empty], .int .i64 0, .int .u8 0, .int .i64 0, .string ByteArray.empty] : Array Value).toList 8 = some ([.agg [.nil, .lit (.bool false), .agg [.lit (.int .i64 0), .lit (.string [])]], .lit (.int .i64 0), .lit (.int .u8 0), .lit (.int .i64 0), .lit (.string [])], [], places) :=
  ⟨[], by kernel_rfl⟩
set_option maxRecDepth 100000 in
theorem lifted (os : Os) (started : os.Started) (H : Type) (enc : TypeId × Value → H) (F : Stop.Interp) :
    ReturnsInHanded {} Tryd.checked os 10 .any ((OpenSpec.ofChange Rows.descTurnsSpec).preRow enc Tryd.prog Tryd.f10 Rows.descTurnsRow.domain false Rows.descTurnsRow.laid) (((OpenSpec.ofChange Rows.descTurnsSpec).at F).post enc Tryd.prog Tryd.f10 false true false false) := by
  obtain ⟨places, hx⟩ := reads os enc
  refine returnsInHanded_of_row (C := Tryd.checked) (s := (OpenSpec.ofChange Rows.descTurnsSpec)) own started (by kernel_rfl) Tryd.func10
    ⟨(World.laidAll Tryd.prog os Rows.descTurnsRow.laid), fun _ _ => 0, ⟨#[], #[.agg #[.slice none 0 0, .bool false, .int .i64 0, .string ByteArray.empty], .int .i64 0, .int .u8 0, .int .i64 0, .string ByteArray.empty], []⟩, rfl, (World.shaped_of_ZipB (by kernel_rfl) (by kernel_rfl)), rfl, (Input.okWide_of_okWideB (by kernel_rfl)).2,
      OpenSpec.preRow_of_cond 8 hx (by kernel_rfl) (fun k hk => by cases hk) (by kernel_rfl) (laid_met os), by simp only [Assume.holds]; exact ⟨by simp, by simp, (fun _ => Modest.zero), by simp, by simp⟩⟩ ?_
  intro W base args ds gs before hval0 hW _ hcond0 hsz0 hL _ _
  have hsz : ∀ x ∈ DataW.weightsEach Tryd.prog (Tryd.f10.params.toList ++ []) (ds ++ gs), x ≤ reachBytes := fun x hx => of_decide_eq_true (List.all_eq_true.1 hsz0 x hx)
  have hval : ∀ (j : Nat) t v, Tryd.f10.params[j]? = some t → args[j]? = some v → Value.okWide Tryd.prog W .any base t v := hval0
  have hW' := hW
  obtain ⟨p, q, hA0, hV, rfl, hfz, hnd⟩ := hW
  have hA : DataW.TrodAll enc Tryd.prog W 0 (fun _ => true) true Tryd.f10.params.toList args.toList ds p := hA0
  rw [Tryd.params10] at hA hval hsz
  obtain ⟨v0, vs0, d0, ds0, p0, q0, hargs, rfl, rfl, h0, r0⟩ := trodAll_cons hA
  obtain ⟨v1, vs1, d1, ds1, p1, q1, rfl, rfl, rfl, h1, r1⟩ := trodAll_cons r0
  obtain ⟨v2, vs2, d2, ds2, p2, q2, rfl, rfl, rfl, h2, r2⟩ := trodAll_cons r1
  obtain ⟨v3, vs3, d3, ds3, p3, q3, rfl, rfl, rfl, h3, r3⟩ := trodAll_cons r2
  obtain ⟨v4, vs4, d4, ds4, p4, q4, rfl, rfl, rfl, h4, r4⟩ := trodAll_cons r3
  obtain ⟨rfl, rfl, rfl⟩ := trodAll_nil r4
  obtain rfl : args = #[v0, v1, v2, v3, v4] := by cases args; simp_all
  obtain ⟨rfl, rfl⟩ := trodVars_none hV
  have k0 := h0
  have lt0 : ∀ x ∈ p0, x.block < W.heap.size := by obtain ⟨m, hm⟩ := k0; exact DataW.trod_lt m _ _ _ hm
  obtain ⟨a0, K0, O0, M0⟩ := open_of o32 h0 (fun x hx => hsz x (weights_at (j := 0) rfl rfl hx))
  clear h0
  obtain ⟨cs0, rfl, _⟩ := okWide_struct Tryd.underlying32 (hval 0 32 v0 rfl rfl)
  obtain ⟨A0_0, c0_0, e0, hc0_0, hr0_0⟩ := k32_open K0
  obtain rfl : cs0 = #[.slice A0_0 a0.f0.length c0_0, .bool a0.f1, .int .i64 a0.f2.f0, .string a0.f2.f1] := by cases cs0; simpa [Value.cells] using e0
  have k1 := h1
  have lt1 : ∀ x ∈ p1, x.block < W.heap.size := by obtain ⟨m, hm⟩ := k1; exact DataW.trod_lt m _ _ _ hm
  obtain ⟨a1, K1, O1, M1⟩ := open_of (opens_int Tryd.underlying3 (by kernel_rfl)) h1 (fun x hx => hsz x (weights_at (j := 1) rfl rfl hx))
  clear h1
  obtain rfl : v1 = .int .i64 a1 := by
    obtain ⟨b_, rfl, _⟩ := open_int Tryd.underlying3 (hval 1 3 v1 rfl rfl) k1
    exact (List.cons.inj K1).1
  have k2 := h2
  have lt2 : ∀ x ∈ p2, x.block < W.heap.size := by obtain ⟨m, hm⟩ := k2; exact DataW.trod_lt m _ _ _ hm
  obtain ⟨a2, K2, O2, M2⟩ := open_of (opens_int Tryd.underlying5 (by kernel_rfl)) h2 (fun x hx => hsz x (weights_at (j := 2) rfl rfl hx))
  clear h2
  obtain rfl : v2 = .int .u8 a2 := by
    obtain ⟨b_, rfl, _⟩ := open_int Tryd.underlying5 (hval 2 5 v2 rfl rfl) k2
    exact (List.cons.inj K2).1
  have k3 := h3
  have lt3 : ∀ x ∈ p3, x.block < W.heap.size := by obtain ⟨m, hm⟩ := k3; exact DataW.trod_lt m _ _ _ hm
  obtain ⟨a3, K3, O3, M3⟩ := open_of (opens_int Tryd.underlying3 (by kernel_rfl)) h3 (fun x hx => hsz x (weights_at (j := 3) rfl rfl hx))
  clear h3
  obtain rfl : v3 = .int .i64 a3 := by
    obtain ⟨b_, rfl, _⟩ := open_int Tryd.underlying3 (hval 3 3 v3 rfl rfl) k3
    exact (List.cons.inj K3).1
  have k4 := h4
  have lt4 : ∀ x ∈ p4, x.block < W.heap.size := by obtain ⟨m, hm⟩ := k4; exact DataW.trod_lt m _ _ _ hm
  obtain ⟨a4, K4, O4, M4⟩ := open_of (opens_string Tryd.underlying9 (by kernel_rfl)) h4 (fun x hx => hsz x (weights_at (j := 4) rfl rfl hx))
  clear h4
  obtain rfl : v4 = .string a4 := by
    obtain ⟨b_, rfl, _⟩ := open_string Tryd.underlying9 (hval 4 9 v4 rfl rfl) k4
    exact (List.cons.inj K4).1
  clear hA0 hval0 hsz0 hsz
  obtain ⟨k, h⟩ := Pure.DescTurns a0 a1 a2 a3 a4 O0 O1 O2 O3 O4
  refine (keystonelaw2_DescTurns.calls k _ _ a0.f0 a0.f1 a0.f2.f0 a0.f2.f1 a1 a2 a3 a4 true W hr0_0 hc0_0 rfl h).mono fun e W' ⟨he, bel⟩ => ?_
  subst he
  exact ⟨_, rfl, _, _, _, [], _, [], hW', trodAll_mk1 (shut_bool Tryd.underlying4 _), (trodAll_cons_mk (Below.trod laidOut (by kernel_rfl) (of_decide_eq_true (by kernel_rfl)) k0 bel lt0) (trodAll_cons_mk (Below.trod laidOut (by kernel_rfl) (of_decide_eq_true (by kernel_rfl)) k1 bel lt1) (trodAll_cons_mk (Below.trod laidOut (by kernel_rfl) (of_decide_eq_true (by kernel_rfl)) k2 bel lt2) (trodAll_cons_mk (Below.trod laidOut (by kernel_rfl) (of_decide_eq_true (by kernel_rfl)) k3 bel lt3) (trodAll_cons_mk (Below.trod laidOut (by kernel_rfl) (of_decide_eq_true (by kernel_rfl)) k4 bel lt4) trodAll_mk0))))), rfl, bel.frame _, fun h => by cases h⟩
theorem said : Rows.DescTurnsSaid :=
  OpenClaim.holds_of_cond 10 Tryd.f10 rfl rfl rfl rfl rfl rfl rfl ⟨rfl, rfl, rfl, rfl, rfl⟩ rfl rfl rfl rfl rfl (by kernel_rfl) Tryd.func10 (by kernel_rfl)
    (of_decide_eq_true (by kernel_rfl)) (by unfold Func.isWrapper; first | (rw [if_pos (by decide +kernel)]; kernel_rfl) | (rw [if_neg (by decide +kernel)]; exact ⟨rfl, rfl⟩))
    (fun os started H enc _ F => by rw [OpenClaim.pre_eq_preRow]; exact lifted os started H enc F)
theorem plain (f : FuncId) (fn : Func) (hf : Tryd.pinned.checked.prog.funcNamed "keystone/keystonelaw2.DescTurns" = some f) (hfn : Tryd.pinned.checked.prog.funcs[f]? = some fn) :
    false = Tryd.pinned.checked.prog.looks [] ∧ ∀ (j : Nat) t, fn.params[j]? = some t → Tryd.pinned.checked.prog.wantsStandIn t = false := by
  obtain rfl : f = 10 := Option.some.inj ((show Tryd.prog.funcNamed "keystone/keystonelaw2.DescTurns" = some 10 by kernel_rfl).symm.trans hf) |>.symm
  obtain rfl : fn = Tryd.f10 := (Option.some.inj (Tryd.func10.symm.trans hfn)).symm
  refine ⟨by kernel_rfl, fun j t ht => ?_⟩
  rw [Tryd.params10] at ht
  have hm : t ∈ [32, 3, 5, 3, 9] := by simpa using Array.mem_of_getElem? ht
  have hall : ([32, 3, 5, 3, 9].all fun u => !Tryd.prog.wantsStandIn u) = true := by kernel_rfl
  exact (show Tryd.prog.wantsStandIn t = false by simpa using List.all_eq_true.1 hall t hm)
theorem card : Rows.DescTurnsCardSaid :=
  Claim7.holds_tied_plain_at .later [] _ _ _ _ said (fun _ h => by cases h) (by kernel_rfl) (fun _ h => by cases h) descTurns_row_tie rfl ⟨rfl, rfl⟩ (by kernel_rfl) rfl plain (by kernel_rfl)
#print axioms card
end Go.Proofs.YtlajkmnmooilmaaDoor.descTurns
namespace Go.Proofs.YtlajkmnmooilmaaDoor
theorem descTurns_holds : Rows.DescTurnsCardSaid := descTurns.card
end Go.Proofs.YtlajkmnmooilmaaDoor
