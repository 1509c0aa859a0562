/- The law keystone/keystonelaw3.PoolOwn holds at every input of the second form's size: the row that says so, and its card. -/
import Derived.Test.YtldejfkplnejjaaDoorCards
import Derived.Test.YtldejfkplnejjaaDoorTie
import Derived.Test.YtldejfkplnejjaaDoorKinds
import Derived.Test.YtldejfkplnejjaaDoorExtO
import Derived.Test.YtldejfkplnejjaaDoorPurePoolOwn
import Derived.WalkKit
import Derived.ProofKit
import Derived.OpenShut
import Derived.ShutString
import Derived.ChangeOld
import Derived.Below
import Derived.SizedLaws
import Derived.LaidMore
import Derived.LaidHandle
import Derived.LaidLaws
import Derived.Deep.DeepHandedRow
import Derived.SevenTiedAt
import Derived.Lay
namespace Go.Proofs.YtldejfkplnejjaaDoor.poolOwn
open Go.ChangeShapes Go.WideShapes Go.ChangeAt Go.RowKit Go.Proofs.YtldejfkplnejjaaDoorW.PrintWords Go.Proofs.YtldejfkplnejjaaDoor.P Go.Proofs.YtldejfkplnejjaaDoor.Open
open Go.ChangeMaps (open_string shut_string)
theorem own : ownKnob Tryd.prog.godebug = none := by kernel_rfl
theorem laidOut : laidOutB Tryd.prog = true := by kernel_rfl
theorem laid_met (os : Os) : laidMetH Tryd.prog Rows.poolOwnUptoRow.laid ((World.laidAll Tryd.prog os Rows.poolOwnUptoRow.laid).forCall (fun _ _ => 0) ⟨#[], #[.slice none 0 0, .agg #[.int .i64 0, .int .i64 0, .string ByteArray.empty, .string ByteArray.empty, .int .i64 0, .string ByteArray.empty, .slice none 0 0, .bool false, .int .i64 0, .string ByteArray.empty], .agg #[.int .i64 0, .int .i64 0, .string ByteArray.empty, .string ByteArray.empty, .int .i64 0, .string ByteArray.empty, .slice none 0 0, .bool false, .int .i64 0, .string ByteArray.empty]], []⟩).memory :=
  laidMetH_of_parts3 (fuel := 8) (laidMet_laidAll _ (by kernel_rfl) (by kernel_rfl)) (by kernel_rfl) (by kernel_rfl)
theorem reads (os : Os) {H : Type} (enc : TypeId × Value → H) : ∃ places, DataW.whole enc Tryd.prog ((World.laidAll Tryd.prog os Rows.poolOwnUptoRow.laid).forCall (fun _ _ => 0) ⟨#[], #[.slice none 0 0, .agg #[.int .i64 0, .int .i64 0, .string ByteArray.empty, .string ByteArray.empty, .int .i64 0, .string ByteArray.empty, .slice none 0 0, .bool false, .int .i64 0, .string ByteArray.empty], .agg #[.int .i64 0, .int .i64 0, .string ByteArray.empty, .string ByteArray.empty, .int .i64 0, .string ByteArray.empty, .slice none 0 0, .bool false, .int .i64 0, .string ByteArray.empty]], []⟩).memory Tryd.f9.params.toList Rows.poolOwnSpec.vars false (#[.slice none 0 0, .agg #[.int .i64 0, .int .i64 0, .string ByteArray.empty, .string ByteArray.empty, .int .i64 0, .string ByteArray.empty, .slice none 0 0, .bool false, .int .i64 0, .string ByteArray.empty], .agg #[.int .i64 0, .int .i64 0, .string ByteArray.empty, .string ByteArray.empty, .int .i64 0, .string ByteArray.empty, .slice none 0 0, .bool false, .int .i64 0, .string ByteArray.empty]] : Array Value).toList 8 = some ([.nil, .agg [.lit (.int .i64 0), .lit (.int .i64 0), .lit (.string []), .lit (.string []), .agg [.lit (.int .i64 0), .lit (.string [])], .agg [.nil, .lit (.bool false), .agg [.lit (.int .i64 0), .lit (.string [])]]], .agg [.lit (.int .i64 0), .lit (.int .i64 0), .lit (.string []), .lit (.string []), .agg [.lit (.int .i64 0), .lit (.string [])], .agg [.nil, .lit (.bool false), .agg [.lit (.int .i64 0), .lit (.string [])]]]], [], places) :=
  ⟨[], by kernel_rfl⟩
set_option maxRecDepth 100000 in
theorem lifted (os : Os) (started : os.Started) (H : Type) (enc : TypeId × Value → H) (F : Stop.Interp) :
    ReturnsInHanded {} Tryd.checked os 9 .any ((Rows.OpenSpec.upto Rows.poolOwnSpec).preRow enc Tryd.prog Tryd.f9 Rows.poolOwnUptoRow.domain false Rows.poolOwnUptoRow.laid) (((Rows.OpenSpec.upto Rows.poolOwnSpec).at F).post enc Tryd.prog Tryd.f9 false true false false) := by
  obtain ⟨places, hx⟩ := reads os enc
  refine returnsInHanded_of_row (C := Tryd.checked) (s := (Rows.OpenSpec.upto Rows.poolOwnSpec)) own started (by kernel_rfl) Tryd.func9
    ⟨(World.laidAll Tryd.prog os Rows.poolOwnUptoRow.laid), fun _ _ => 0, ⟨#[], #[.slice none 0 0, .agg #[.int .i64 0, .int .i64 0, .string ByteArray.empty, .string ByteArray.empty, .int .i64 0, .string ByteArray.empty, .slice none 0 0, .bool false, .int .i64 0, .string ByteArray.empty], .agg #[.int .i64 0, .int .i64 0, .string ByteArray.empty, .string ByteArray.empty, .int .i64 0, .string ByteArray.empty, .slice none 0 0, .bool false, .int .i64 0, .string ByteArray.empty]], []⟩, rfl, (World.shaped_of_ZipB (by kernel_rfl) (by kernel_rfl)), rfl, (Input.okWide_of_okWideB (by kernel_rfl)).2,
      OpenSpec.preRow_of_cond 8 hx (by kernel_rfl) (fun k hk => by cases hk; kernel_rfl) (by kernel_rfl) (laid_met os), by simp only [Assume.holds]; exact ⟨by simp, by simp, (fun _ => Modest.zero), by simp, by simp⟩⟩ ?_
  intro W base args ds gs before hval0 hW _ hcond0 hsz0 hL _ _
  have hsz : ∀ x ∈ DataW.weightsEach Tryd.prog (Tryd.f9.params.toList ++ []) (ds ++ gs), x ≤ reachBytes := fun x hx => of_decide_eq_true (List.all_eq_true.1 hsz0 x hx)
  have hval : ∀ (j : Nat) t v, Tryd.f9.params[j]? = some t → args[j]? = some v → Value.okWide Tryd.prog W .any base t v := hval0
  have hW' := hW
  obtain ⟨p, q, hA0, hV, rfl, hfz, hnd⟩ := hW
  have hA : DataW.TrodAll enc Tryd.prog W 0 (fun _ => true) true Tryd.f9.params.toList args.toList ds p := hA0
  rw [Tryd.params9] at hA hval hsz
  obtain ⟨v0, vs0, d0, ds0, p0, q0, hargs, rfl, rfl, h0, r0⟩ := trodAll_cons hA
  obtain ⟨v1, vs1, d1, ds1, p1, q1, rfl, rfl, rfl, h1, r1⟩ := trodAll_cons r0
  obtain ⟨v2, vs2, d2, ds2, p2, q2, rfl, rfl, rfl, h2, r2⟩ := trodAll_cons r1
  obtain ⟨rfl, rfl, rfl⟩ := trodAll_nil r2
  obtain rfl : args = #[v0, v1, v2] := by cases args; simp_all
  obtain ⟨rfl, rfl⟩ := trodVars_none hV
  have hb : Rows.uptoBulkAll ([d0, d1, d2] ++ []) ≤ 1048576 := of_decide_eq_true (hcond0 _ rfl)
  simp only [List.append_nil, Rows.uptoBulkAll] at hb
  have k0 := h0
  have lt0 : ∀ x ∈ p0, x.block < W.heap.size := by obtain ⟨m, hm⟩ := k0; exact DataW.trod_lt m _ _ _ hm
  obtain ⟨a0, K0, O0, M0⟩ := open_of (opens_slice (b := 56) Tryd.underlying22 (by kernel_rfl) (by kernel_rfl) o50) h0 (fun x hx => hsz x (weights_at (j := 0) rfl rfl hx))
  clear h0
  obtain ⟨A0, len0, cap0, rfl⟩ := okWide_slice Tryd.underlying22 (hval 0 22 v0 rfl rfl)
  obtain ⟨A_, c_, e_, hc0, hr0⟩ := K0
  obtain ⟨rfl, rfl, rfl⟩ : A0 = A_ ∧ len0 = a0.length ∧ cap0 = c_ := by simpa [Value.cells] using e_
  have k1 := h1
  have lt1 : ∀ x ∈ p1, x.block < W.heap.size := by obtain ⟨m, hm⟩ := k1; exact DataW.trod_lt m _ _ _ hm
  obtain ⟨a1, K1, O1, M1⟩ := open_of o57 h1 (fun x hx => hsz x (weights_at (j := 1) rfl rfl hx))
  clear h1
  obtain ⟨cs1, rfl, _⟩ := okWide_struct Tryd.underlying57 (hval 1 57 v1 rfl rfl)
  obtain ⟨A1_6, c1_6, e1, hc1_6, hr1_6⟩ := k57_open K1
  obtain rfl : cs1 = #[.int .i64 a1.f0, .int .i64 a1.f1, .string a1.f2, .string a1.f3, .int .i64 a1.f4.f0, .string a1.f4.f1, .slice A1_6 a1.f5.f0.length c1_6, .bool a1.f5.f1, .int .i64 a1.f5.f2.f0, .string a1.f5.f2.f1] := by cases cs1; simpa [Value.cells] using e1
  have k2 := h2
  have lt2 : ∀ x ∈ p2, x.block < W.heap.size := by obtain ⟨m, hm⟩ := k2; exact DataW.trod_lt m _ _ _ hm
  obtain ⟨a2, K2, O2, M2⟩ := open_of o57 h2 (fun x hx => hsz x (weights_at (j := 2) rfl rfl hx))
  clear h2
  obtain ⟨cs2, rfl, _⟩ := okWide_struct Tryd.underlying57 (hval 2 57 v2 rfl rfl)
  obtain ⟨A2_6, c2_6, e2, hc2_6, hr2_6⟩ := k57_open K2
  obtain rfl : cs2 = #[.int .i64 a2.f0, .int .i64 a2.f1, .string a2.f2, .string a2.f3, .int .i64 a2.f4.f0, .string a2.f4.f1, .slice A2_6 a2.f5.f0.length c2_6, .bool a2.f5.f1, .int .i64 a2.f5.f2.f0, .string a2.f5.f2.f1] := by cases cs2; simpa [Value.cells] using e2
  clear hA0 hval0 hsz0 hsz
  have B : (sumOf m50 a0 + 1) + (m57 a1) + (m57 a2) ≤ 1048576 := by omega
  have h := Pure.PoolOwn a0 a1 a2 O0 O1 O2 B
  refine (keystonelaw3_PoolOwn.calls _ _ a0 a1.f0 a1.f1 a1.f2 a1.f3 a1.f4.f0 a1.f4.f1 _ _ a1.f5.f0 a1.f5.f1 a1.f5.f2.f0 a1.f5.f2.f1 a2.f0 a2.f1 a2.f2 a2.f3 a2.f4.f0 a2.f4.f1 _ _ a2.f5.f0 a2.f5.f1 a2.f5.f2.f0 a2.f5.f2.f1 true W hr0 hc0 hr1_6 hc1_6 hr2_6 hc2_6 h).mono fun e W' ⟨he, bel⟩ => ?_
  subst he
  exact ⟨_, rfl, _, _, _, [], _, [], hW', trodAll_mk1 (shut_bool Tryd.underlying4 _), (trodAll_cons_mk (Below.trod laidOut (by kernel_rfl) (of_decide_eq_true (by kernel_rfl)) k0 bel lt0) (trodAll_cons_mk (Below.trod laidOut (by kernel_rfl) (of_decide_eq_true (by kernel_rfl)) k1 bel lt1) (trodAll_cons_mk (Below.trod laidOut (by kernel_rfl) (of_decide_eq_true (by kernel_rfl)) k2 bel lt2) trodAll_mk0))), rfl, bel.frame _, fun h => by cases h⟩
theorem said : Rows.PoolOwnUptoSaid :=
  OpenClaim.holds_of_cond 9 Tryd.f9 rfl rfl rfl rfl rfl rfl rfl ⟨rfl, rfl, rfl, rfl, rfl⟩ rfl rfl rfl rfl rfl (by kernel_rfl) Tryd.func9 (by kernel_rfl)
    (of_decide_eq_true (by kernel_rfl)) (by unfold Func.isWrapper; first | (rw [if_pos (by decide +kernel)]; kernel_rfl) | (rw [if_neg (by decide +kernel)]; exact ⟨rfl, rfl⟩))
    (fun os started H enc _ F => by rw [OpenClaim.pre_eq_preRow]; exact lifted os started H enc F)
theorem plain (f : FuncId) (fn : Func) (hf : Tryd.pinned.checked.prog.funcNamed "keystone/keystonelaw3.PoolOwn" = some f) (hfn : Tryd.pinned.checked.prog.funcs[f]? = some fn) :
    false = Tryd.pinned.checked.prog.looks [] ∧ ∀ (j : Nat) t, fn.params[j]? = some t → Tryd.pinned.checked.prog.wantsStandIn t = false := by
  obtain rfl : f = 9 := Option.some.inj ((show Tryd.prog.funcNamed "keystone/keystonelaw3.PoolOwn" = some 9 by kernel_rfl).symm.trans hf) |>.symm
  obtain rfl : fn = Tryd.f9 := (Option.some.inj (Tryd.func9.symm.trans hfn)).symm
  refine ⟨by kernel_rfl, fun j t ht => ?_⟩
  rw [Tryd.params9] at ht
  have hm : t ∈ [22, 57, 57] := by simpa using Array.mem_of_getElem? ht
  have hall : ([22, 57, 57].all fun u => !Tryd.prog.wantsStandIn u) = true := by kernel_rfl
  exact (show Tryd.prog.wantsStandIn t = false by simpa using List.all_eq_true.1 hall t hm)
theorem card : Rows.PoolOwnUptoCardSaid :=
  Claim7.holds_tied_plain_at .later [] _ _ _ _ said (fun _ h => by cases h) (by kernel_rfl) (fun _ h => by cases h) poolOwnUpto_row_tie rfl ⟨rfl, rfl⟩ (by kernel_rfl) rfl plain (by kernel_rfl)
#print axioms card
end Go.Proofs.YtldejfkplnejjaaDoor.poolOwn
namespace Go.Proofs.YtldejfkplnejjaaDoor
theorem poolOwnUpto_holds : Rows.PoolOwnUptoCardSaid := poolOwn.card
end Go.Proofs.YtldejfkplnejjaaDoor
