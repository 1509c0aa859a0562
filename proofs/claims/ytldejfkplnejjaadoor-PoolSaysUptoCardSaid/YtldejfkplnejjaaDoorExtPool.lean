/- The pool's builder, by hand: a list of entries behind a pointer, and a map to the first place of each. -/
import Derived.Test.YtldejfkplnejjaaDoorExt
import Derived.Test.YtldejfkplnejjaaDoorShort
import Derived.Test.YtldejfkplnejjaaDoorWTab
import Derived.Maps.OwnSet
import Derived.StringKeys
import Derived.DeepKeys4
namespace Go.Proofs.YtldejfkplnejjaaDoor.P
open Go.RowKit Go.Proofs.YtldejfkplnejjaaDoorW.PrintWords Go.Proofs.YtldejfkplnejjaaDoorW.PrintLast Go.Proofs.YtldejfkplnejjaaDoorW.PrintMore
open Go.Maps Go.WideMaps Go.MapKept
set_option linter.unusedVariables false
set_option linter.unusedSimpArgs false
def eqE (x y : S50) : Bool := x.f0 == y.f0 && x.f1.toList == y.f1.toList && x.f2 == y.f2 && x.f3 == y.f3 && x.f4 == y.f4 && x.f5 == y.f5
theorem bytes_ext {a b : ByteArray} (h : a.data.toList = b.data.toList) : a = b := by
  obtain ⟨a⟩ := a
  obtain ⟨b⟩ := b
  exact congrArg _ (Array.toList_inj.mp h)
theorem eqE_iff {x y : S50} : eqE x y = true ↔ x = y := by
  unfold eqE
  obtain ⟨a0, a1, a2, a3, a4, a5⟩ := x
  obtain ⟨b0, b1, b2, b3, b4, b5⟩ := y
  simp only [Bool.and_eq_true, beq_iff_eq, S50.mk.injEq, ByteArray.toList_eq]
  constructor
  · rintro ⟨⟨⟨⟨⟨h0, h1⟩, h2⟩, h3⟩, h4⟩, h5⟩
    exact ⟨h0, bytes_ext h1, h2, h3, h4, h5⟩
  · rintro ⟨h0, h1, h2, h3, h4, h5⟩
    exact ⟨⟨⟨⟨⟨h0, by rw [h1]⟩, h2⟩, h3⟩, h4⟩, h5⟩
instance : DecidableEq S50 := fun x y => decidable_of_iff _ (eqE_iff (x := x) (y := y))
def okE (x : S50) : Prop := ((Lit.int .i64 x.f0).wf = true) ∧ (x.f1.size ≤ maxLen) ∧ ((Lit.int .i64 x.f2).wf = true) ∧ ((Lit.int .i64 x.f3).wf = true) ∧ ((Lit.int .i64 x.f4).wf = true) ∧ ((Lit.int .i64 x.f5).wf = true)
def entV (x : S50) : Value := .agg #[.int .i64 x.f0, .string x.f1, .int .i64 x.f2, .int .i64 x.f3, .int .i64 x.f4, .int .i64 x.f5]
def entK (x : S50) : Lit := .string (keyBytes [.int .i64 x.f0, .string x.f1.data.toList, .int .i64 x.f2, .int .i64 x.f3, .int .i64 x.f4, .int .i64 x.f5])
theorem ent_deep : Tryd.prog.keyTypeAt 2 50 = true := by kernel_rfl
theorem ent_row : (50 : TypeId) < Tryd.prog.types.size := of_decide_eq_true (by kernel_rfl)
theorem ent_laid : laidOutB Tryd.prog = true := by kernel_rfl
theorem ent_law : Keyed Tryd.prog 50 := Keyed.of_law (deep_law_laid ent_laid (m := 2) (by omega) ent_row ent_deep (by rw [Tryd.underlying50]))
theorem ent_kt : Tryd.prog.keyType 50 = true := by kernel_rfl
theorem ent_cells : Tryd.prog.cellsOf 50 = 6 := by kernel_rfl
theorem ent_zero (w : World) : (zeroValue 3).run Tryd.prog w = .ok (.int .i64 0) w := by kernel_rfl
theorem ent_lits (m : Nat) {x : S50} (h : okE x) : Tryd.prog.keyLits (m + 2) 50 [.int .i64 x.f0, .string x.f1, .int .i64 x.f2, .int .i64 x.f3, .int .i64 x.f4, .int .i64 x.f5] = some [.int .i64 x.f0, .string x.f1.data.toList, .int .i64 x.f2, .int .i64 x.f3, .int .i64 x.f4, .int .i64 x.f5] := by
  obtain ⟨h0, h1, h2, h3, h4, h5⟩ := h
  have hi : ∀ (n : Int), (Lit.int .i64 n).wf = true → Tryd.prog.keyLits (m + 1) 3 [.int .i64 n] = some [.int .i64 n] := fun n hn => by
    simp only [Program.keyLits, Tryd.underlying3, hn]; simp
  have hj : ∀ (n : Int), (Lit.int .i64 n).wf = true → Tryd.prog.keyLits (m + 1) 2 [.int .i64 n] = some [.int .i64 n] := fun n hn => by
    simp only [Program.keyLits, Tryd.underlying2, hn]; simp
  have hs : Tryd.prog.keyLits (m + 1) 9 [.string x.f1] = some [.string x.f1.data.toList] := by
    simp only [Program.keyLits, Tryd.underlying9]; simp [h1]
  have c3 : Tryd.prog.cellsOf 3 = 1 := by kernel_rfl
  have c2 : Tryd.prog.cellsOf 2 = 1 := by kernel_rfl
  have c9 : Tryd.prog.cellsOf 9 = 1 := by kernel_rfl
  rw [show m + 2 = (m + 1) + 1 from rfl]
  unfold Program.keyLits
  simp [Tryd.underlying50, ent_cells, c3, c2, c9, hi _ h0, hs, hj _ h2, hi _ h3, hi _ h4, hi _ h5]
theorem ent_key {x : S50} (h : okE x) : keyOf Tryd.prog 50 (entV x) = some (entK x) := by
  unfold keyOf
  rw [Tryd.underlying50]
  have hf : (entV x).formed Tryd.prog 50 = true := by simp [entV, Value.formed, Tryd.underlying50, ent_cells]
  simp only [ent_kt, hf, Bool.and_self, if_true]
  obtain ⟨m, hm⟩ : ∃ m, Tryd.prog.types.size + 1 = m + 2 := ⟨Tryd.prog.types.size - 1, by
    have h0 : 0 < Tryd.prog.types.size := Nat.lt_of_le_of_lt (Nat.zero_le _) ent_row
    omega⟩
  rw [hm, show (entV x).cells.toList = [.int .i64 x.f0, .string x.f1, .int .i64 x.f2, .int .i64 x.f3, .int .i64 x.f4, .int .i64 x.f5] from rfl, ent_lits _ h]
  rfl
theorem ent_inj {x y : S50} (hx : okE x) (hy : okE y) (h : entK x = entK y) : x = y := by
  have h1 := ent_key hx
  rw [h] at h1
  have := ent_law.inj h1 (ent_key hy)
  unfold entV at this
  cases x; cases y
  simpa using this
/-- The first place of an entry. -/
def fstI (x : S50) (L : List S50) : Option Nat := L.findIdx? (fun y => eqE y x)
theorem fstI_add (x : S50) (L : List S50) (y : S50) : fstI y (L ++ [x]) = match fstI y L with | some i => some i | none => if x = y then some L.length else none := by
  unfold fstI
  rw [List.findIdx?_append]
  cases h : L.findIdx? (fun z => eqE z y) with
  | some i => rfl
  | none =>
    by_cases e : x = y
    · rw [if_pos e]
      simp [List.findIdx?_cons, eqE_iff.2 e]
    · rw [if_neg e]
      have : eqE x y = false := by
        cases h' : eqE x y with
        | true => exact absurd (eqE_iff.1 h') e
        | false => rfl
      simp [List.findIdx?_cons, this]
def fstD (D : DataW Unit) (L : List S50) : Prop := Maps.IsMap D ∧ ∀ x, okE x → Maps.has D (entK x) = (fstI x L).isSome ∧ ∀ i, fstI x L = some i → D.atKey (entK x) (.lit (.int .i64 0)) = .lit (.int .i64 (i : Int))
theorem fstD_nil : fstD (.map []) [] := ⟨⟨[], rfl⟩, fun x _ => ⟨rfl, fun i h => by cases h⟩⟩
theorem fstD_put {D : DataW Unit} {L : List S50} (h : fstD D L) {x : S50} (hx : okE x) (hn : fstI x L = none) : fstD (D.put (entK x) (.lit (.int .i64 (L.length : Int)))) (L ++ [x]) := by
  refine ⟨?_, fun y hy => ?_⟩
  · obtain ⟨es, rfl⟩ := h.1
    exact ⟨_, rfl⟩
  · rw [fstI_add]
    by_cases e : x = y
    · subst e
      rw [hn, Maps.has_put_same h.1 (by trivial)]
      refine ⟨by simp, fun i hi => ?_⟩
      simp at hi
      rw [Maps.atKey_put_same h.1 (by trivial), hi]
    · have hk : entK y ≠ entK x := fun h' => e (ent_inj hx hy h'.symm)
      rw [Maps.has_put_other hk, Maps.atKey_put_other hk, if_neg e]
      obtain ⟨h1, h2⟩ := h.2 y hy
      cases hf : fstI y L with
      | none => rw [hf] at h1; exact ⟨h1, fun i hi => by cases hi⟩
      | some i => rw [hf] at h1; exact ⟨h1, fun j hj => by cases hj; exact h2 i hf⟩
theorem fstI_lt {x : S50} {L : List S50} {i : Nat} (h : fstI x L = some i) : i < L.length := by
  unfold fstI at h
  exact (List.findIdx?_eq_some_iff_getElem.1 h).1

def PS (w : World) (base g : Nat) (L : List S50) : Prop :=
  ∃ (gm : Nat) (Ao : Option Addr) (co : Nat) (D : DataW Unit) (es : Array MapEntry) (clock : Nat),
    (base ≤ g ∧ base ≤ gm ∧ gm ≠ g) ∧ fstD D L ∧ (∀ W : World, W.heap[gm]? = some (.map es clock) → W.ownsMap Tryd.prog 50 (plainElem Tryd.prog 3) gm L.length D) ∧
    w.heap[g]? = some (.cells #[.slice Ao L.length co, .map (some gm)] 103 (0, 0)) ∧ w.heap[gm]? = some (.map es clock) ∧
    Kd.R k50 50 w base (fun k => k ≠ g ∧ k ≠ gm) (.slice Ao L.length co) L
def putI (x : S50) (L : List S50) : Int := match fstI x L with | some i => (i : Int) | none => (L.length : Int)
def putL (x : S50) (L : List S50) : List S50 := match fstI x L with | some _ => L | none => L ++ [x]
theorem look_run {gm n : Nat} {es : Array MapEntry} {clock : Nat} {D : DataW Unit} (HF : ∀ W : World, W.heap[gm]? = some (.map es clock) → W.ownsMap Tryd.prog 50 (plainElem Tryd.prog 3) gm n D) {x : S50} (hx : okE x) {w : World} (hw : w.heap[gm]? = some (.map es clock)) :
    ∃ c : Int, D.atKey (entK x) (.lit (.int .i64 0)) = .lit (.int .i64 c) ∧ ∀ w' : World, w'.heap[gm]? = some (.map es clock) → (Instr.lookup 99 (.map (some gm)) (entV x) true).run Tryd.prog w' = .ok (.tuple #[.int .i64 c, .bool (Maps.has D (entK x))]) w' := by
  have main : ∀ w' : World, w'.heap[gm]? = some (.map es clock) → ∃ c : Int, D.atKey (entK x) (.lit (.int .i64 0)) = .lit (.int .i64 c) ∧ (Instr.lookup 99 (.map (some gm)) (entV x) true).run Tryd.prog w' = .ok (.tuple #[.int .i64 c, .bool (Maps.has D (entK x))]) w' := fun w' h' => by
    obtain ⟨v, ps, hrun, hv⟩ := World.ownsMap.look_ok (HF w' h') ent_law Tryd.underlying99 (ent_zero w') (plainElem_int Tryd.underlying3 (by decide)) (ent_key hx)
    obtain ⟨c, rfl, hc, _⟩ := plainElem_int_inv Tryd.underlying3 hv
    exact ⟨c, congrArg Prod.fst hc, hrun⟩
  obtain ⟨c, hc, _⟩ := main w hw
  refine ⟨c, hc, fun w' h' => ?_⟩
  obtain ⟨c', hc', hr⟩ := main w' h'
  rw [hc] at hc'
  obtain rfl : c = c' := by simpa using hc'
  exact hr

theorem val_ {P : Program} {ops : Array Oper} {Q : Exit → Act → World → Prop} {oi : Oper} {a : Act} {w w1 : World} {K : Act → World → Prop} {N : Option Tmp} (v : Value) (hw : Region.wanted oi (yielded ops a.tmps) = true) (hN : oi.dst = N) (hrun : (execOp a.eval oi).run P w = .ok (.value v) w1)
    (h : K (a.put N v) w1) : if Region.wanted oi (yielded ops a.tmps) = true then Oper.wp P oi a w K Q else K (a.put N undef) w := by
  rw [if_pos hw]
  unfold Oper.wp
  rw [hrun]
  subst hN
  exact h
theorem last_ {P : Program} {ops : Array Oper} {Q : Exit → Act → World → Prop} {md : Region.Mode} {S : World → Prop} {ds : List Nat} {i : Nat} {N : Option Tmp} {oi : Oper} {fuel : Nat} {l : Array Bool} {a : Act} {w : World} (l' : Array Bool) (hi : ops[i]? = some oi) (hN : oi.dst = N) (hc : readyB md ops l l' i = true) (hd : i ∈ ds)
    (h : ∀ K : Act → World → Prop, (∀ a' w', wpAnyLast P md ops Q S ds fuel l' a' w' → K a' w') → if Region.wanted oi (yielded ops a.tmps) = true then Oper.wp P oi a w K Q else K (a.put N undef) w) :
    wpAnyLast P md ops Q S ds (fuel + 1) l a w := by
  subst hN
  simp only [readyB, Bool.and_eq_true, beq_iff_eq] at hc
  obtain ⟨h1, h2⟩ := hc
  subst h2
  refine wpAnyLast_all h1 (by simp) (fun j hj => ?_)
  obtain rfl : j = i := by simpa using hj
  exact wpOp_step hi (fun K' hK => h K' (fun a w hW => hK a w ⟨fun hn => absurd hd hn, hW⟩))
theorem below_trans {B : Nat} {w w1 w2 : World} (h : Below B w w1) (k : Below B w1 w2) : Below B w w2 :=
  ⟨k.os.trans h.os, k.tape.trans h.tape, k.output.trans h.output, Nat.le_trans h.size k.size, fun j hj => (k.block j hj).trans (h.block j hj)⟩
theorem app_run_ {P : Program} {o : Oper} {a : Act} {W w1 : World} {s x : Operand} {t : TypeId} {v u v1 : Value} (ho : o.op = .call { callee := .builtin .append, args := #[s, x], argTypes := #[t, t] }) (hs : a.eval s = v) (hx : a.eval x = u) (hr : (Builtin.append_ #[t, t] o.type #[v, u]).run P W = .ok v1 w1) : (execOp a.eval o).run P W = .ok (.value v1) w1 := by
  unfold execOp
  simp only [ho, resolve, invoke, builtin, Sem.run_bind, Sem.run_pure, Result.andThen_ok, List.map_toArray, List.map_cons, List.map_nil, hs, hx, hr]
theorem ent_info : (Tryd.prog.info? 50).map (fun i => (i.zero, i.size, i.bytes)) = some (some (.agg #[.int .i64 0, .string ⟨#[]⟩, .int .i64 0, .int .i64 0, .int .i64 0, .int .i64 0]), 6, 56) := by kernel_rfl
theorem ent_append {W : World} {base : Nat} {ok : Nat → Prop} {v : Value} {L : List S50} (x : S50) (hbase : base ≤ W.heap.size) (HO : Kd.R k50 50 W base ok v L) (hfresh : ∀ k, W.heap.size ≤ k → ok k) (hl : (L.length + 1) * 56 ≤ 140737488355328) (ty : TypeId) :
    ∃ v1 w1, (Builtin.append_ #[22, 22] ty #[v, .slice (some ⟨W.heap.size, 0, none⟩) 1 1]).run Tryd.prog (W.alloc (.cells #[.int .i64 x.f0, .string x.f1, .int .i64 x.f2, .int .i64 x.f3, .int .i64 x.f4, .int .i64 x.f5] 50)) = .ok v1 w1 ∧ Kd.R k50 50 w1 base ok v1 (L ++ [x]) ∧ W.grownBy w1 v.ownBlock ∧ Below base W w1 := by
  obtain ⟨h0, inner, hown, hr⟩ := HO
  obtain ⟨i0, hi, hzz⟩ := Option.map_eq_some_iff.1 ent_info
  simp only [Prod.mk.injEq] at hzz
  obtain ⟨hz0, hz1, hz2⟩ := hzz
  obtain ⟨v1, w1, hrun, hown1, hg, _, hat⟩ := run_append_own_at (P := Tryd.prog) (W.alloc (.cells #[.int .i64 x.f0, .string x.f1, .int .i64 x.f2, .int .i64 x.f3, .int .i64 x.f4, .int .i64 x.f5] 50)) base 22 ty 50 i0 _ 6 56 Tryd.underlying22 hi hz0 hz1 hz2 rfl (by omega) v L.length inner (hown.alloc _) ⟨W.heap.size, 0, none⟩ 1 1 [.int .i64 x.f0, .string x.f1, .int .i64 x.f2, .int .i64 x.f3, .int .i64 x.f4, .int .i64 x.f5] rfl
    (by simpa using World.news_of_block (cs := #[.int .i64 x.f0, .string x.f1, .int .i64 x.f2, .int .i64 x.f3, .int .i64 x.f4, .int .i64 x.f5]) (t := 50) (fr := (0, 0)) (heap_alloc_new W (.cells #[.int .i64 x.f0, .string x.f1, .int .i64 x.f2, .int .i64 x.f3, .int .i64 x.f4, .int .i64 x.f5] 50))) (by simp [Value.oneCell']) (by simp only [maxLen]; omega) hl (by simp; omega)
  have hb : Below base W w1 := ((Below.refl base W).alloc hbase _).grown hg (by simp; omega) (own_base hown)
  have hg' := World.grownBy.trans (World.grownBy_alloc W (.cells #[.int .i64 x.f0, .string x.f1, .int .i64 x.f2, .int .i64 x.f3, .int .i64 x.f4, .int .i64 x.f5] 50) v.ownBlock) hg
  refine ⟨v1, w1, hrun, Kd.R_appended (okp := fun k => ok k ∧ some k ≠ v.ownBlock) h0 hr (k50_mkM _ _ _ x) (fun k hk => hk) hfresh hown1 hg' ?_, hg', hb⟩
  rcases hat with hat | hat
  · exact .inl hat
  · exact .inr ⟨_, hat, by simp⟩
set_option maxHeartbeats 8000000 in
set_option maxRecDepth 100000 in
theorem rows_put.calls (x : S50) (hx : okE x) (L : List S50) (base g : Nat) (w : World) (hb : base ≤ w.heap.size) (hL : L.length ≤ 1000000000000) (h : PS w base g L) :
    Calls Tryd.prog 89 #[.pointer (some ⟨g, 0, none⟩), .agg #[.int .i64 x.f0, .string x.f1, .int .i64 x.f2, .int .i64 x.f3, .int .i64 x.f4, .int .i64 x.f5]] w fun e w' => e = .returned (.int .i64 (putI x L)) ∧ PS w' base g (putL x L) ∧ Below base w w' := by
  obtain ⟨gm, Ao, co, D, es, clock, ⟨hg0, hm0, hgm⟩, HD, HF, BG, BM, HO⟩ := h
  obtain ⟨c, hc, hlook⟩ := look_run HF hx BM
  obtain ⟨hh, hi⟩ := HD.2 x hx
  rw [hh] at hlook
  have HX : ∀ w2 : World, Below w.heap.size w w2 → PS w2 base g L := fun w2 hb2 => ⟨gm, Ao, co, D, es, clock, ⟨hg0, hm0, hgm⟩, HD, HF, blk_below BG hb2, blk_below BM hb2, Kd.R_below HO hb2⟩
  replace HX := Aside0.mk HX
  replace hlook := Aside0.mk hlook
  replace HF := Aside0.mk HF
  replace HD := Aside0.mk HD
  replace hx := Aside0.mk hx
  replace hi := Aside0.mk hi
  have hbox_ : ∀ w2 : World, Below w.heap.size w w2 → Aside0 (w2.heap[g]? = some (.cells #[.slice Ao L.length co, .map (some gm)] 103 (0, 0))) ∧ Aside0 (w2.heap[gm]? = some (.map es clock)) ∧ Aside0 (Kd.R k50 50 w2 base (fun k => k ≠ g ∧ k ≠ gm) (.slice Ao L.length co) L) := fun w2 hb2 => ⟨⟨blk_below BG hb2⟩, ⟨blk_below BM hb2⟩, ⟨Kd.R_below HO hb2⟩⟩
  have hgx : ∀ gx : Nat, gx = w.heap.size → Aside0 (gx ≠ g) ∧ Aside0 (gx ≠ gm) ∧ Aside0 (some gx ≠ (Value.slice Ao L.length co).ownBlock) := fun gx e => ⟨⟨by have := blk_lt BG; omega⟩, ⟨by have := blk_lt BM; omega⟩, ⟨fun he => by have := Kd.R_lt HO gx he.symm; omega⟩⟩
  replace hbox_ := Aside0.mk hbox_
  replace hgx := Aside0.mk hgx
  clear BG BM HO
  cases hf : fstI x L with
  | some i =>
    obtain rfl : c = i := by
      have := hi.out i hf
      rw [hc] at this
      simpa using this
    rw [hf] at hlook
    have hres : putI x L = (i : Int) ∧ putL x L = L := by simp [putI, putL, hf]
    replace hres := Aside0.mk hres
    clear hf hc hh
    go_enter Tryd.func89, Tryd.ntmps89
    go_wp2_with (first | ((with_reducible refine gate_dst (N := 3) rfl ?_); refine box_event ?hg (N := 3) ?hd (cs := #[.int .i64 x.f0, .string x.f1, .int .i64 x.f2, .int .i64 x.f3, .int .i64 x.f4, .int .i64 x.f5]) (t := 50) ?hr ?_; (case hd => rfl); (case hg => rfl); (case hr => first | (go_simp; done) | (go_simp; rfl)); intro gx hg w2 hbox hb2; obtain ⟨BG, BM, HO⟩ := hbox_.out w2 hb2; have BX := Aside0.mk hbox; have HB := Aside0.mk hb2; have NXG := (hgx.out gx hg).1; have NXM := (hgx.out gx hg).2.1; have NXO := (hgx.out gx hg).2.2; have GX := Aside0.mk (Nat.le_trans hb (Nat.le_of_eq hg.symm)); clear hbox hb2 hg))
    refine start_ (n := 11) (S := fun w' => w'.cell? ⟨gx, 0, none⟩ = some (.int .i64 x.f0) ∧ w'.cell? ⟨gx, 1, none⟩ = some (.string x.f1) ∧ w'.cell? ⟨gx, 2, none⟩ = some (.int .i64 x.f2) ∧ w'.cell? ⟨gx, 3, none⟩ = some (.int .i64 x.f3) ∧ w'.cell? ⟨gx, 4, none⟩ = some (.int .i64 x.f4) ∧ w'.cell? ⟨gx, 5, none⟩ = some (.int .i64 x.f5) ∧ w'.cell? ⟨g, 0, none⟩ = some (.slice Ao L.length co) ∧ w'.cell? ⟨g, 1, none⟩ = some (.map (some gm)) ∧ w'.heap[gm]? = some (.map es clock)) (ds := []) #[false, false, false, false, false, false, false, false, false, false, false] (by kernel_rfl) rfl rfl ⟨(blk_cell BX.out 0).trans rfl, (blk_cell BX.out 1).trans rfl, (blk_cell BX.out 2).trans rfl, (blk_cell BX.out 3).trans rfl, (blk_cell BX.out 4).trans rfl, (blk_cell BX.out 5).trans rfl, (blk_cell BG.out 0).trans rfl, (blk_cell BG.out 1).trans rfl, BM.out⟩ (fun hHeld => ?_)
    refine pure_ (i := 0) (N := some 8) (v := ?_) (a' := ?_) #[true, false, false, false, false, false, false, false, false, false, false] rfl rfl (by kernel_rfl) (fun _ _ _ h => h) (Or.inl ⟨by rfl, ?_⟩) ?_ ?_
    rotate_left
    · intro w'
      go_simp
      with_reducible rfl
    rotate_left
    · simp only [Act.put, List.setIfInBounds_toArray, List.set_cons_zero, List.set_cons_succ, i64_w, i32_w]
      rfl
    refine pure_ (i := 1) (N := some 9) (v := ?_) (a' := ?_) #[true, true, false, false, false, false, false, false, false, false, false] rfl rfl (by kernel_rfl) (fun _ _ _ h => h) (Or.inl ⟨by rfl, ?_⟩) ?_ ?_
    rotate_left
    · intro w'
      go_simp
      with_reducible rfl
    rotate_left
    · simp only [Act.put, List.setIfInBounds_toArray, List.set_cons_zero, List.set_cons_succ, i64_w, i32_w]
      rfl
    refine pure_ (i := 2) (N := some 10) (v := ?_) (a' := ?_) #[true, true, true, false, false, false, false, false, false, false, false] rfl rfl (by kernel_rfl) (fun _ _ _ h => h) (Or.inl ⟨by rfl, ?_⟩) ?_ ?_
    rotate_left
    · intro w'
      go_simp
      with_reducible rfl
    rotate_left
    · simp only [Act.put, List.setIfInBounds_toArray, List.set_cons_zero, List.set_cons_succ, i64_w, i32_w]
      rfl
    refine take_ (i := 3) (N := some 11) (v := ?_) (a' := ?_) #[true, true, true, true, false, false, false, false, false, false, false] rfl rfl (by kernel_rfl) (fun _ _ _ h => h) (Or.inl ⟨by rfl, ?_⟩) hHeld ?_ ?_
    rotate_left
    · rintro w' ⟨s0, s1, s2, s3, s4, s5, s6, s7, s8⟩
      go_simp
      with_reducible rfl
    rotate_left
    · simp only [Act.put, List.setIfInBounds_toArray, List.set_cons_zero, List.set_cons_succ, i64_w, i32_w]
      rfl
    refine take_ (i := 4) (N := some 12) (v := ?_) (a' := ?_) #[true, true, true, true, true, false, false, false, false, false, false] rfl rfl (by kernel_rfl) (fun _ _ _ h => h) (Or.inl ⟨by rfl, ?_⟩) hHeld ?_ ?_
    rotate_left
    · rintro w' ⟨s0, s1, s2, s3, s4, s5, s6, s7, s8⟩
      go_simp
      with_reducible rfl
    rotate_left
    · simp only [Act.put, List.setIfInBounds_toArray, List.set_cons_zero, List.set_cons_succ, i64_w, i32_w]
      rfl
    refine take_ (i := 5) (N := some 13) (v := .tuple #[.int .i64 (i : Int), .bool true]) (a' := ?_) #[true, true, true, true, true, true, false, false, false, false, false] rfl rfl (by kernel_rfl) (fun _ _ _ h => h) (Or.inl ⟨by rfl, ?_⟩) hHeld ?_ ?_
    · rintro w' ⟨s0, s1, s2, s3, s4, s5, s6, s7, s8⟩
      have hrun := hlook.out w' s8
      unfold entV at hrun
      simp only [execOp]
      go_simp
    rotate_left
    · simp only [Act.put, List.setIfInBounds_toArray, List.set_cons_zero, List.set_cons_succ, i64_w, i32_w]
      rfl
    refine pure_ (i := 6) (N := some 7) (v := ?_) (a' := ?_) #[true, true, true, true, true, true, true, false, false, false, false] rfl rfl (by kernel_rfl) (fun _ _ _ h => h) (Or.inl ⟨by rfl, ?_⟩) ?_ ?_
    rotate_left
    · intro w'
      go_simp
      with_reducible rfl
    rotate_left
    · simp only [Act.put, List.setIfInBounds_toArray, List.set_cons_zero, List.set_cons_succ, i64_w, i32_w]
      rfl
    refine pure_ (i := 7) (N := some 14) (v := ?_) (a' := ?_) #[true, true, true, true, true, true, true, true, false, false, false] rfl rfl (by kernel_rfl) (fun _ _ _ h => h) (Or.inl ⟨by rfl, ?_⟩) ?_ ?_
    rotate_left
    · intro w'
      go_simp
      with_reducible rfl
    rotate_left
    · simp only [Act.put, List.setIfInBounds_toArray, List.set_cons_zero, List.set_cons_succ, i64_w, i32_w]
      rfl
    refine pure_ (i := 8) (N := some 15) (v := ?_) (a' := ?_) #[true, true, true, true, true, true, true, true, true, false, false] rfl rfl (by kernel_rfl) (fun _ _ _ h => h) (Or.inl ⟨by rfl, ?_⟩) ?_ ?_
    rotate_left
    · intro w'
      go_simp
      with_reducible rfl
    rotate_left
    · simp only [Act.put, List.setIfInBounds_toArray, List.set_cons_zero, List.set_cons_succ, i64_w, i32_w]
      rfl
    refine pure_ (i := 9) (N := some 5) (v := ?_) (a' := ?_) #[true, true, true, true, true, true, true, true, true, true, false] rfl rfl (by kernel_rfl) (fun _ _ _ h => h) (Or.inl ⟨by rfl, ?_⟩) ?_ ?_
    rotate_left
    · intro w'
      go_simp
      with_reducible rfl
    rotate_left
    · simp only [Act.put, List.setIfInBounds_toArray, List.set_cons_zero, List.set_cons_succ, i64_w, i32_w]
      rfl
    refine pure_ (i := 10) (N := some 6) (v := ?_) (a' := ?_) #[true, true, true, true, true, true, true, true, true, true, true] rfl rfl (by kernel_rfl) (fun _ _ _ h => h) (Or.inl ⟨by rfl, ?_⟩) ?_ ?_
    rotate_left
    · intro w'
      go_simp
      with_reducible rfl
    rotate_left
    · simp only [Act.put, List.setIfInBounds_toArray, List.set_cons_zero, List.set_cons_succ, i64_w, i32_w]
      rfl
    refine done_ (by kernel_rfl) ?_
    go_wp2
    go_ret
    refine ⟨by rw [hres.out.1]; rfl, ?_, ?_⟩
    · rw [hres.out.2]
      exact HX.out _ (by repeat (first | exact HB.out | apply below_drew))
    · exact ⟨HB.out.os, HB.out.tape, HB.out.output, HB.out.size, fun k hk => HB.out.block k (Nat.lt_of_lt_of_le hk hb)⟩
  | none =>
    rw [hf] at hlook
    have hres : putI x L = (L.length : Int) ∧ putL x L = L ++ [x] := by simp [putI, putL, hf]
    replace hres := Aside0.mk hres
    replace hf := Aside0.mk hf
    have hlt : L.length < maxLen := by unfold maxLen; omega
    have hwl : (Lit.int .i64 (L.length : Int)).wf = true := WalkArith.wf_i64 (by omega)
    clear hc hh
    go_enter Tryd.func89, Tryd.ntmps89
    go_wp2_with (first | ((with_reducible refine gate_dst (N := 3) rfl ?_); refine box_event ?hg (N := 3) ?hd (cs := #[.int .i64 x.f0, .string x.f1, .int .i64 x.f2, .int .i64 x.f3, .int .i64 x.f4, .int .i64 x.f5]) (t := 50) ?hr ?_; (case hd => rfl); (case hg => rfl); (case hr => first | (go_simp; done) | (go_simp; rfl)); intro gx hg w2 hbox hb2; obtain ⟨BG, BM, HO⟩ := hbox_.out w2 hb2; have BX := Aside0.mk hbox; have HB := Aside0.mk hb2; have NXG := (hgx.out gx hg).1; have NXM := (hgx.out gx hg).2.1; have NXO := (hgx.out gx hg).2.2; have GX := Aside0.mk (Nat.le_trans hb (Nat.le_of_eq hg.symm)); clear hbox hb2 hg))
    refine start_ (n := 11) (S := fun w' => w'.cell? ⟨gx, 0, none⟩ = some (.int .i64 x.f0) ∧ w'.cell? ⟨gx, 1, none⟩ = some (.string x.f1) ∧ w'.cell? ⟨gx, 2, none⟩ = some (.int .i64 x.f2) ∧ w'.cell? ⟨gx, 3, none⟩ = some (.int .i64 x.f3) ∧ w'.cell? ⟨gx, 4, none⟩ = some (.int .i64 x.f4) ∧ w'.cell? ⟨gx, 5, none⟩ = some (.int .i64 x.f5) ∧ w'.cell? ⟨g, 0, none⟩ = some (.slice Ao L.length co) ∧ w'.cell? ⟨g, 1, none⟩ = some (.map (some gm)) ∧ w'.heap[gm]? = some (.map es clock)) (ds := []) #[false, false, false, false, false, false, false, false, false, false, false] (by kernel_rfl) rfl rfl ⟨(blk_cell BX.out 0).trans rfl, (blk_cell BX.out 1).trans rfl, (blk_cell BX.out 2).trans rfl, (blk_cell BX.out 3).trans rfl, (blk_cell BX.out 4).trans rfl, (blk_cell BX.out 5).trans rfl, (blk_cell BG.out 0).trans rfl, (blk_cell BG.out 1).trans rfl, BM.out⟩ (fun hHeld => ?_)
    refine pure_ (i := 0) (N := some 8) (v := ?_) (a' := ?_) #[true, false, false, false, false, false, false, false, false, false, false] rfl rfl (by kernel_rfl) (fun _ _ _ h => h) (Or.inl ⟨by rfl, ?_⟩) ?_ ?_
    rotate_left
    · intro w'
      go_simp
      with_reducible rfl
    rotate_left
    · simp only [Act.put, List.setIfInBounds_toArray, List.set_cons_zero, List.set_cons_succ, i64_w, i32_w]
      rfl
    refine pure_ (i := 1) (N := some 9) (v := ?_) (a' := ?_) #[true, true, false, false, false, false, false, false, false, false, false] rfl rfl (by kernel_rfl) (fun _ _ _ h => h) (Or.inl ⟨by rfl, ?_⟩) ?_ ?_
    rotate_left
    · intro w'
      go_simp
      with_reducible rfl
    rotate_left
    · simp only [Act.put, List.setIfInBounds_toArray, List.set_cons_zero, List.set_cons_succ, i64_w, i32_w]
      rfl
    refine pure_ (i := 2) (N := some 10) (v := ?_) (a' := ?_) #[true, true, true, false, false, false, false, false, false, false, false] rfl rfl (by kernel_rfl) (fun _ _ _ h => h) (Or.inl ⟨by rfl, ?_⟩) ?_ ?_
    rotate_left
    · intro w'
      go_simp
      with_reducible rfl
    rotate_left
    · simp only [Act.put, List.setIfInBounds_toArray, List.set_cons_zero, List.set_cons_succ, i64_w, i32_w]
      rfl
    refine take_ (i := 3) (N := some 11) (v := ?_) (a' := ?_) #[true, true, true, true, false, false, false, false, false, false, false] rfl rfl (by kernel_rfl) (fun _ _ _ h => h) (Or.inl ⟨by rfl, ?_⟩) hHeld ?_ ?_
    rotate_left
    · rintro w' ⟨s0, s1, s2, s3, s4, s5, s6, s7, s8⟩
      go_simp
      with_reducible rfl
    rotate_left
    · simp only [Act.put, List.setIfInBounds_toArray, List.set_cons_zero, List.set_cons_succ, i64_w, i32_w]
      rfl
    refine take_ (i := 4) (N := some 12) (v := ?_) (a' := ?_) #[true, true, true, true, true, false, false, false, false, false, false] rfl rfl (by kernel_rfl) (fun _ _ _ h => h) (Or.inl ⟨by rfl, ?_⟩) hHeld ?_ ?_
    rotate_left
    · rintro w' ⟨s0, s1, s2, s3, s4, s5, s6, s7, s8⟩
      go_simp
      with_reducible rfl
    rotate_left
    · simp only [Act.put, List.setIfInBounds_toArray, List.set_cons_zero, List.set_cons_succ, i64_w, i32_w]
      rfl
    refine take_ (i := 5) (N := some 13) (v := .tuple #[.int .i64 c, .bool false]) (a' := ?_) #[true, true, true, true, true, true, false, false, false, false, false] rfl rfl (by kernel_rfl) (fun _ _ _ h => h) (Or.inl ⟨by rfl, ?_⟩) hHeld ?_ ?_
    · rintro w' ⟨s0, s1, s2, s3, s4, s5, s6, s7, s8⟩
      have hrun := hlook.out w' s8
      unfold entV at hrun
      simp only [execOp]
      go_simp
    rotate_left
    · simp only [Act.put, List.setIfInBounds_toArray, List.set_cons_zero, List.set_cons_succ, i64_w, i32_w]
      rfl
    refine pure_ (i := 6) (N := some 7) (v := ?_) (a' := ?_) #[true, true, true, true, true, true, true, false, false, false, false] rfl rfl (by kernel_rfl) (fun _ _ _ h => h) (Or.inl ⟨by rfl, ?_⟩) ?_ ?_
    rotate_left
    · intro w'
      go_simp
      with_reducible rfl
    rotate_left
    · simp only [Act.put, List.setIfInBounds_toArray, List.set_cons_zero, List.set_cons_succ, i64_w, i32_w]
      rfl
    refine pure_ (i := 7) (N := some 14) (v := ?_) (a' := ?_) #[true, true, true, true, true, true, true, true, false, false, false] rfl rfl (by kernel_rfl) (fun _ _ _ h => h) (Or.inl ⟨by rfl, ?_⟩) ?_ ?_
    rotate_left
    · intro w'
      go_simp
      with_reducible rfl
    rotate_left
    · simp only [Act.put, List.setIfInBounds_toArray, List.set_cons_zero, List.set_cons_succ, i64_w, i32_w]
      rfl
    refine pure_ (i := 8) (N := some 15) (v := ?_) (a' := ?_) #[true, true, true, true, true, true, true, true, true, false, false] rfl rfl (by kernel_rfl) (fun _ _ _ h => h) (Or.inl ⟨by rfl, ?_⟩) ?_ ?_
    rotate_left
    · intro w'
      go_simp
      with_reducible rfl
    rotate_left
    · simp only [Act.put, List.setIfInBounds_toArray, List.set_cons_zero, List.set_cons_succ, i64_w, i32_w]
      rfl
    refine pure_ (i := 9) (N := some 5) (v := ?_) (a' := ?_) #[true, true, true, true, true, true, true, true, true, true, false] rfl rfl (by kernel_rfl) (fun _ _ _ h => h) (Or.inl ⟨by rfl, ?_⟩) ?_ ?_
    rotate_left
    · intro w'
      go_simp
      with_reducible rfl
    rotate_left
    · simp only [Act.put, List.setIfInBounds_toArray, List.set_cons_zero, List.set_cons_succ, i64_w, i32_w]
      rfl
    refine pure_ (i := 10) (N := some 6) (v := ?_) (a' := ?_) #[true, true, true, true, true, true, true, true, true, true, true] rfl rfl (by kernel_rfl) (fun _ _ _ h => h) (Or.inl ⟨by rfl, ?_⟩) ?_ ?_
    rotate_left
    · intro w'
      go_simp
      with_reducible rfl
    rotate_left
    · simp only [Act.put, List.setIfInBounds_toArray, List.set_cons_zero, List.set_cons_succ, i64_w, i32_w]
      rfl
    refine done_ (by kernel_rfl) ?_
    go_wp2
    clear hHeld
    refine start_ (n := 11) (S := fun w' => w'.cell? ⟨gx, 0, none⟩ = some (.int .i64 x.f0) ∧ w'.cell? ⟨gx, 1, none⟩ = some (.string x.f1) ∧ w'.cell? ⟨gx, 2, none⟩ = some (.int .i64 x.f2) ∧ w'.cell? ⟨gx, 3, none⟩ = some (.int .i64 x.f3) ∧ w'.cell? ⟨gx, 4, none⟩ = some (.int .i64 x.f4) ∧ w'.cell? ⟨gx, 5, none⟩ = some (.int .i64 x.f5) ∧ w'.cell? ⟨g, 0, none⟩ = some (.slice Ao L.length co) ∧ w'.cell? ⟨g, 1, none⟩ = some (.map (some gm)) ∧ w'.heap[gm]? = some (.map es clock)) (ds := [10]) #[false, false, false, false, false, false, false, false, false, false, false] (by kernel_rfl) rfl rfl ⟨(blk_cell BX.out 0).trans rfl, (blk_cell BX.out 1).trans rfl, (blk_cell BX.out 2).trans rfl, (blk_cell BX.out 3).trans rfl, (blk_cell BX.out 4).trans rfl, (blk_cell BX.out 5).trans rfl, (blk_cell BG.out 0).trans rfl, (blk_cell BG.out 1).trans rfl, BM.out⟩ (fun hHeld => ?_)
    refine pure_ (i := 0) (N := some 18) (v := ?_) (a' := ?_) #[true, false, false, false, false, false, false, false, false, false, false] rfl rfl (by kernel_rfl) (fun _ _ _ h => h) (Or.inl ⟨by rfl, ?_⟩) ?_ ?_
    rotate_left
    · intro w'
      go_simp
      with_reducible rfl
    rotate_left
    · simp only [Act.put, List.setIfInBounds_toArray, List.set_cons_zero, List.set_cons_succ, i64_w, i32_w]
      rfl
    refine pure_ (i := 1) (N := some 19) (v := ?_) (a' := ?_) #[true, true, false, false, false, false, false, false, false, false, false] rfl rfl (by kernel_rfl) (fun _ _ _ h => h) (Or.inl ⟨by rfl, ?_⟩) ?_ ?_
    rotate_left
    · intro w'
      go_simp
      with_reducible rfl
    rotate_left
    · simp only [Act.put, List.setIfInBounds_toArray, List.set_cons_zero, List.set_cons_succ, i64_w, i32_w]
      rfl
    refine pure_ (i := 2) (N := some 20) (v := ?_) (a' := ?_) #[true, true, true, false, false, false, false, false, false, false, false] rfl rfl (by kernel_rfl) (fun _ _ _ h => h) (Or.inl ⟨by rfl, ?_⟩) ?_ ?_
    rotate_left
    · intro w'
      go_simp
      with_reducible rfl
    rotate_left
    · simp only [Act.put, List.setIfInBounds_toArray, List.set_cons_zero, List.set_cons_succ, i64_w, i32_w]
      rfl
    refine take_ (i := 3) (N := some 21) (v := ?_) (a' := ?_) #[true, true, true, true, false, false, false, false, false, false, false] rfl rfl (by kernel_rfl) (fun _ _ _ h => h) (Or.inl ⟨by rfl, ?_⟩) hHeld ?_ ?_
    rotate_left
    · rintro w' ⟨s0, s1, s2, s3, s4, s5, s6, s7, s8⟩
      go_simp
      with_reducible rfl
    rotate_left
    · simp only [Act.put, List.setIfInBounds_toArray, List.set_cons_zero, List.set_cons_succ, i64_w, i32_w]
      rfl
    refine take_ (i := 4) (N := some 22) (v := ?_) (a' := ?_) #[true, true, true, true, true, false, false, false, false, false, false] rfl rfl (by kernel_rfl) (fun _ _ _ h => h) (Or.inl ⟨by rfl, ?_⟩) hHeld ?_ ?_
    rotate_left
    · rintro w' ⟨s0, s1, s2, s3, s4, s5, s6, s7, s8⟩
      go_simp
      with_reducible rfl
    rotate_left
    · simp only [Act.put, List.setIfInBounds_toArray, List.set_cons_zero, List.set_cons_succ, i64_w, i32_w]
      rfl
    refine pure_ (i := 5) (N := some 23) (v := ?_) (a' := ?_) #[true, true, true, true, true, true, false, false, false, false, false] rfl rfl (by kernel_rfl) (fun _ _ _ h => h) (Or.inl ⟨by rfl, ?_⟩) ?_ ?_
    rotate_left
    · intro w'
      go_simp
      with_reducible rfl
    rotate_left
    · simp only [Act.put, List.setIfInBounds_toArray, List.set_cons_zero, List.set_cons_succ, i64_w, i32_w]
      rfl
    refine pure_ (i := 6) (N := some 24) (v := ?_) (a' := ?_) #[true, true, true, true, true, true, true, false, false, false, false] rfl rfl (by kernel_rfl) (fun _ _ _ h => h) (Or.inl ⟨by rfl, ?_⟩) ?_ ?_
    rotate_left
    · intro w'
      go_simp
      with_reducible rfl
    rotate_left
    · simp only [Act.put, List.setIfInBounds_toArray, List.set_cons_zero, List.set_cons_succ, i64_w, i32_w]
      rfl
    refine pure_ (i := 7) (N := some 25) (v := ?_) (a' := ?_) #[true, true, true, true, true, true, true, true, false, false, false] rfl rfl (by kernel_rfl) (fun _ _ _ h => h) (Or.inl ⟨by rfl, ?_⟩) ?_ ?_
    rotate_left
    · intro w'
      go_simp
      with_reducible rfl
    rotate_left
    · simp only [Act.put, List.setIfInBounds_toArray, List.set_cons_zero, List.set_cons_succ, i64_w, i32_w]
      rfl
    refine take_ (i := 8) (N := some 26) (v := ?_) (a' := ?_) #[true, true, true, true, true, true, true, true, true, false, false] rfl rfl (by kernel_rfl) (fun _ _ _ h => h) (Or.inl ⟨by rfl, ?_⟩) hHeld ?_ ?_
    rotate_left
    · rintro w' ⟨s0, s1, s2, s3, s4, s5, s6, s7, s8⟩
      go_simp
      with_reducible rfl
    rotate_left
    · simp only [Act.put, List.setIfInBounds_toArray, List.set_cons_zero, List.set_cons_succ, i64_w, i32_w]
      rfl
    refine pure_ (i := 9) (N := some 27) (v := ?_) (a' := ?_) #[true, true, true, true, true, true, true, true, true, true, false] rfl rfl (by kernel_rfl) (fun _ _ _ h => h) (Or.inl ⟨by rfl, ?_⟩) ?_ ?_
    rotate_left
    · intro w'
      go_simp
      with_reducible rfl
    rotate_left
    · simp only [Act.put, List.setIfInBounds_toArray, List.set_cons_zero, List.set_cons_succ, i64_w, i32_w]
      rfl
    refine last_ (i := 10) (N := none) #[true, true, true, true, true, true, true, true, true, true, true] rfl rfl (by kernel_rfl) (by decide) (fun K hK => ?_)
    obtain ⟨w4, hrun4, hown4, hturn4⟩ := World.ownsMap.store (val := .int .i64 (L.length : Int)) (HF.out _ hHeld.2.2.2.2.2.2.2.2) ent_law Tryd.underlying99 hlt (ent_key hx.out) (plainElem_int Tryd.underlying3 hwl)
    unfold entV at hrun4
    refine skip_ (w1 := w4) (by rfl) rfl ?_ ?_
    · simp only [execOp]
      go_simp
    refine hK _ _ ?_
    refine done_ (by kernel_rfl) ?_
    have hg4 := hturn4.grown
    have n0_ := Aside0.mk (blk_grown (blk_drew (blk_drew BG.out)) hg4 (fun e => hgm (Option.some.inj e).symm))
    have n1_ := Aside0.mk (blk_grown (blk_drew (blk_drew BX.out)) hg4 (fun e => NXM.out (Option.some.inj e)))
    have n2_ := Aside0.mk (Kd.R_step (Kd.R_drew (Kd.R_drew HO.out)) (fun k hk hlt => hg4.block k hlt (fun e => hk.2 (Option.some.inj e))))
    have HBb : Below base w w2 := ⟨HB.out.os, HB.out.tape, HB.out.output, HB.out.size, fun k hk => HB.out.block k (Nat.lt_of_lt_of_le hk hb)⟩
    have n3_ := Aside0.mk (Below.grown (below_drew (below_drew HBb)) hg4 (Nat.le_trans hb HB.out.size) (fun k hk => by cases hk; exact hm0))
    obtain ⟨es2, clock2, hbm, F2, hs2, hD2⟩ := hown4
    have n4_ := Aside0.mk hbm
    have hbs := Aside0.mk (Nat.le_trans (Nat.le_trans hb HB.out.size) hg4.size : base ≤ w4.heap.size)
    replace HF := Aside0.mk (fun (W : World) (h : W.heap[gm]? = some (.map es2 clock2)) => (⟨es2, clock2, h, F2, hs2, hD2⟩ : W.ownsMap Tryd.prog 50 (plainElem Tryd.prog 3) gm (L.length + 1) _))
    clear BG BX HO HB HBb BM hHeld hg4 hturn4 hbm F2 hs2 hD2 hlook hbox_ HX
    have BG := n0_
    have BX := n1_
    have HO := n2_
    have HB := n3_
    have BM := n4_
    clear n0_ n1_ n2_ n3_ n4_
    try go_wp2
    refine start_ (n := 11) (S := fun w' => w'.cell? ⟨gx, 0, none⟩ = some (.int .i64 x.f0) ∧ w'.cell? ⟨gx, 1, none⟩ = some (.string x.f1) ∧ w'.cell? ⟨gx, 2, none⟩ = some (.int .i64 x.f2) ∧ w'.cell? ⟨gx, 3, none⟩ = some (.int .i64 x.f3) ∧ w'.cell? ⟨gx, 4, none⟩ = some (.int .i64 x.f4) ∧ w'.cell? ⟨gx, 5, none⟩ = some (.int .i64 x.f5) ∧ w'.cell? ⟨g, 0, none⟩ = some (.slice Ao L.length co)) (ds := [10]) #[false, false, false, false, false, false, false, false, false, false, false] (by kernel_rfl) rfl rfl ⟨(blk_cell BX.out 0).trans rfl, (blk_cell BX.out 1).trans rfl, (blk_cell BX.out 2).trans rfl, (blk_cell BX.out 3).trans rfl, (blk_cell BX.out 4).trans rfl, (blk_cell BX.out 5).trans rfl, (blk_cell BG.out 0).trans rfl⟩ (fun hHeld => ?_)
    refine pure_ (i := 0) (N := some 28) (v := ?_) (a' := ?_) #[true, false, false, false, false, false, false, false, false, false, false] rfl rfl (by kernel_rfl) (fun _ _ _ h => h) (Or.inl ⟨by rfl, ?_⟩) ?_ ?_
    rotate_left
    · intro w'
      go_simp
      with_reducible rfl
    rotate_left
    · simp only [Act.put, List.setIfInBounds_toArray, List.set_cons_zero, List.set_cons_succ, i64_w, i32_w]
      rfl
    refine pure_ (i := 1) (N := some 29) (v := ?_) (a' := ?_) #[true, true, false, false, false, false, false, false, false, false, false] rfl rfl (by kernel_rfl) (fun _ _ _ h => h) (Or.inl ⟨by rfl, ?_⟩) ?_ ?_
    rotate_left
    · intro w'
      go_simp
      with_reducible rfl
    rotate_left
    · simp only [Act.put, List.setIfInBounds_toArray, List.set_cons_zero, List.set_cons_succ, i64_w, i32_w]
      rfl
    refine pure_ (i := 2) (N := some 30) (v := ?_) (a' := ?_) #[true, true, true, false, false, false, false, false, false, false, false] rfl rfl (by kernel_rfl) (fun _ _ _ h => h) (Or.inl ⟨by rfl, ?_⟩) ?_ ?_
    rotate_left
    · intro w'
      go_simp
      with_reducible rfl
    rotate_left
    · simp only [Act.put, List.setIfInBounds_toArray, List.set_cons_zero, List.set_cons_succ, i64_w, i32_w]
      rfl
    refine pure_ (i := 3) (N := some 31) (v := ?_) (a' := ?_) #[true, true, true, true, false, false, false, false, false, false, false] rfl rfl (by kernel_rfl) (fun _ _ _ h => h) (Or.inl ⟨by rfl, ?_⟩) ?_ ?_
    rotate_left
    · intro w'
      go_simp
      with_reducible rfl
    rotate_left
    · simp only [Act.put, List.setIfInBounds_toArray, List.set_cons_zero, List.set_cons_succ, i64_w, i32_w]
      rfl
    refine take_ (i := 4) (N := some 32) (v := ?_) (a' := ?_) #[true, true, true, true, true, false, false, false, false, false, false] rfl rfl (by kernel_rfl) (fun _ _ _ h => h) (Or.inl ⟨by rfl, ?_⟩) hHeld ?_ ?_
    rotate_left
    · rintro w' ⟨s0, s1, s2, s3, s4, s5, s6⟩
      go_simp
      with_reducible rfl
    rotate_left
    · simp only [Act.put, List.setIfInBounds_toArray, List.set_cons_zero, List.set_cons_succ, i64_w, i32_w]
      rfl
    refine take_ (i := 5) (N := some 33) (v := ?_) (a' := ?_) #[true, true, true, true, true, true, false, false, false, false, false] rfl rfl (by kernel_rfl) (fun _ _ _ h => h) (Or.inl ⟨by rfl, ?_⟩) hHeld ?_ ?_
    rotate_left
    · rintro w' ⟨s0, s1, s2, s3, s4, s5, s6⟩
      go_simp
      with_reducible rfl
    rotate_left
    · simp only [Act.put, List.setIfInBounds_toArray, List.set_cons_zero, List.set_cons_succ, i64_w, i32_w]
      rfl
    refine one_ (i := 6) (N := some 34) #[true, true, true, true, true, true, true, false, false, false, false] rfl rfl (by kernel_rfl) (by decide) (fun K hK => ?_)
    refine val_ (w1 := w4.drew.alloc (.cells #[.int .i64 x.f0, .string x.f1, .int .i64 x.f2, .int .i64 x.f3, .int .i64 x.f4, .int .i64 x.f5] 50)) (.slice (some ⟨w4.drew.heap.size, 0, none⟩) 1 1) (by rfl) rfl ?_ ?_
    · first | (go_simp; done) | (go_simp; rfl)
    refine hK.out _ _ ⟨(blk_cell (blk_alloc (blk_drew BX.out) _) 0).trans rfl, (blk_cell (blk_alloc (blk_drew BX.out) _) 1).trans rfl, (blk_cell (blk_alloc (blk_drew BX.out) _) 2).trans rfl, (blk_cell (blk_alloc (blk_drew BX.out) _) 3).trans rfl, (blk_cell (blk_alloc (blk_drew BX.out) _) 4).trans rfl, (blk_cell (blk_alloc (blk_drew BX.out) _) 5).trans rfl, (blk_cell (blk_alloc (blk_drew BG.out) _) 0).trans rfl⟩ (fun hHeld2 => ?_)
    have hm5 : ∀ k, w4.drew.heap.size ≤ k → k ≠ g ∧ k ≠ gm := fun k hk => by have h1 := blk_lt BG.out; have h2 := blk_lt BM.out; have h3 : w4.heap.size ≤ k := hk; omega
    obtain ⟨v5, w5, hrun5, HO5, hg5, hb5⟩ := ent_append x (W := w4.drew) (base := base) (L := L) (v := .slice Ao L.length co) hbs.out (Kd.R_drew HO.out) hm5 (by omega) 22
    obtain ⟨L2, hL2⟩ : ∃ L2 : List S50, L2 = L ++ [x] := ⟨_, rfl⟩
    rw [← hL2] at HO5
    replace hL2 := Aside0.mk hL2
    have BG5 := blk_grown (blk_drew BG.out) hg5 (fun e => (HO.out.1 g e.symm).1 rfl)
    have BX5 := blk_grown (blk_drew BX.out) hg5 NXO.out
    have BM5 := blk_grown (blk_drew BM.out) hg5 (fun e => (HO.out.1 gm e.symm).2 rfl)
    refine one_ (i := 7) (N := some 35) #[true, true, true, true, true, true, true, true, false, false, false] rfl rfl (by kernel_rfl) (by decide) (fun K2 hK2 => ?_)
    refine val_ (w1 := w5) v5 (by rfl) rfl ?_ ?_
    · exact app_run_ rfl rfl rfl hrun5
    refine hK2.out _ _ ⟨(blk_cell BX5 0).trans rfl, (blk_cell BX5 1).trans rfl, (blk_cell BX5 2).trans rfl, (blk_cell BX5 3).trans rfl, (blk_cell BX5 4).trans rfl, (blk_cell BX5 5).trans rfl, (blk_cell BG5 0).trans rfl⟩ (fun hHeld3 => ?_)
    refine pure_ (i := 8) (N := some 36) (v := ?_) (a' := ?_) #[true, true, true, true, true, true, true, true, true, false, false] rfl rfl (by kernel_rfl) (fun _ _ _ h => h) (Or.inl ⟨by rfl, ?_⟩) ?_ ?_
    rotate_left
    · intro w'
      go_simp
      with_reducible rfl
    rotate_left
    · simp only [Act.put, List.setIfInBounds_toArray, List.set_cons_zero, List.set_cons_succ, i64_w, i32_w]
      rfl
    refine pure_ (i := 9) (N := some 37) (v := ?_) (a' := ?_) #[true, true, true, true, true, true, true, true, true, true, false] rfl rfl (by kernel_rfl) (fun _ _ _ h => h) (Or.inl ⟨by rfl, ?_⟩) ?_ ?_
    rotate_left
    · intro w'
      go_simp
      with_reducible rfl
    rotate_left
    · simp only [Act.put, List.setIfInBounds_toArray, List.set_cons_zero, List.set_cons_succ, i64_w, i32_w]
      rfl
    have hs26 : w5.cell? ⟨g, 0, none⟩ = some (.slice Ao L.length co) := (blk_cell BG5 0).trans rfl
    have hfs26 := blk_frozen BG5 0
    obtain ⟨A5, c5, e5⟩ := Kd.R_slice HO5
    subst e5
    refine last_ (i := 10) (N := none) #[true, true, true, true, true, true, true, true, true, true, true] rfl rfl (by kernel_rfl) (by decide) (fun K3 hK3 => ?_)
    refine skip_ (w1 := w5.setCell ⟨g, 0, none⟩ (.slice A5 L2.length c5)) (by rfl) rfl ?_ ?_
    · first | (go_simp; done) | (go_simp; rfl)
    refine hK3 _ _ ?_
    refine done_ (by kernel_rfl) ?_
    have hne5 : ∀ k, (Value.slice A5 L2.length c5).ownBlock = some k → k ≠ g ∧ k ≠ gm := HO5.1
    have HP : PS (w5.setCell ⟨g, 0, none⟩ (.slice A5 L2.length c5)) base g L2 :=
      ⟨gm, A5, c5, _, es2, clock2, ⟨hg0, hm0, hgm⟩, by rw [hL2.out]; exact fstD_put HD.out hx.out hf.out, fun W h => by rw [hL2.out, List.length_append]; exact HF.out W h, blk_put BG5 0 _ rfl, (Below.heap_setCell w5 ⟨g, 0, none⟩ _ gm hgm).trans BM5, Kd.R_far (p := ⟨g, 0, none⟩) HO5 (fun k hk => hk.1) _⟩
    have HBf : Below base w (w5.setCell ⟨g, 0, none⟩ (.slice A5 L2.length c5)) := Below.setCell (below_trans HB.out (below_trans (below_drew (Below.refl base w4)) hb5)) hg0 _
    have hcg : (w5.setCell ⟨g, 0, none⟩ (.slice A5 L2.length c5)).cell? ⟨g, 0, none⟩ = some (.slice A5 L2.length c5) := (blk_cell (blk_put BG5 0 (.slice A5 L2.length c5) rfl) 0).trans rfl
    have hfg := blk_frozen (blk_put BG5 0 (.slice A5 L2.length c5) rfl) 0
    clear hHeld hHeld2 hHeld3 hs26 hfs26 BG5 BX5 BM5 HO5
    go_wp2
    go_ret
    refine ⟨?_, ?_, ?_⟩
    · rw [hres.out.1]
      have e : wrap64 ((L2.length : Int) - 1) = (L.length : Int) := by
        rw [hL2.out, List.length_append]
        simp only [List.length_singleton]
        unfold wrap64
        omega
      first
        | exact congrArg (fun n => Ending.returned (Value.int .i64 n)) e
        | simp [e]
    · rw [hres.out.2, ← hL2.out]; exact HP
    · exact HBf
end Go.Proofs.YtldejfkplnejjaaDoor.P
