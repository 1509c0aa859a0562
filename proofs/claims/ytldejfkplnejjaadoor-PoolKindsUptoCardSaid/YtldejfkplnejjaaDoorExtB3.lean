/- The pool's builder, by hand: a list of entries behind a pointer, and a map to the first place of each. The pool's builder with the blocks that it owns: what it does leaves every other block alone. The pool's rows.text, class and member, with the blocks that they own. The pool's rows.cut: the entries from a place on are taken out of the list and of the map. -/
import Derived.Test.YtldejfkplnejjaaDoorExt
import Derived.Test.YtldejfkplnejjaaDoorShort
import Derived.Test.YtldejfkplnejjaaDoorWTab
import Derived.Maps.OwnSet
import Derived.StringKeys
import Derived.DeepKeys4
import Derived.Test.YtldejfkplnejjaaDoorShort2
namespace Go.Proofs.YtldejfkplnejjaaDoor.P
open Go.RowKit Go.Proofs.YtldejfkplnejjaaDoorW.PrintWords Go.Proofs.YtldejfkplnejjaaDoorW.PrintLast Go.Proofs.YtldejfkplnejjaaDoorW.PrintMore
open Go.Maps Go.WideMaps Go.MapKept
set_option linter.unusedVariables false
set_option linter.unusedSimpArgs false
def eqE (x y : S50) : Bool := x.f0 == y.f0 && x.f1.toList == y.f1.toList && x.f2 == y.f2 && x.f3 == y.f3 && x.f4 == y.f4 && x.f5 == y.f5
theorem bytes_ext {a b : ByteArray} (h : a.data.toList = b.data.toList) : a = b := by
  obtain ⟨a⟩ := a
  obtain ⟨b⟩ := b
  exact congrArg _ (Array.toList_inj.mp h)
theorem eqE_iff {x y : S50} : eqE x y = true ↔ x = y := by
  unfold eqE
  obtain ⟨a0, a1, a2, a3, a4, a5⟩ := x
  obtain ⟨b0, b1, b2, b3, b4, b5⟩ := y
  simp only [Bool.and_eq_true, beq_iff_eq, S50.mk.injEq, ByteArray.toList_eq]
  constructor
  · rintro ⟨⟨⟨⟨⟨h0, h1⟩, h2⟩, h3⟩, h4⟩, h5⟩
    exact ⟨h0, bytes_ext h1, h2, h3, h4, h5⟩
  · rintro ⟨h0, h1, h2, h3, h4, h5⟩
    exact ⟨⟨⟨⟨⟨h0, by rw [h1]⟩, h2⟩, h3⟩, h4⟩, h5⟩
instance : DecidableEq S50 := fun x y => decidable_of_iff _ (eqE_iff (x := x) (y := y))
def okE (x : S50) : Prop := ((Lit.int .i64 x.f0).wf = true) ∧ (x.f1.size ≤ maxLen) ∧ ((Lit.int .i64 x.f2).wf = true) ∧ ((Lit.int .i64 x.f3).wf = true) ∧ ((Lit.int .i64 x.f4).wf = true) ∧ ((Lit.int .i64 x.f5).wf = true)
def entV (x : S50) : Value := .agg #[.int .i64 x.f0, .string x.f1, .int .i64 x.f2, .int .i64 x.f3, .int .i64 x.f4, .int .i64 x.f5]
def entK (x : S50) : Lit := .string (keyBytes [.int .i64 x.f0, .string x.f1.data.toList, .int .i64 x.f2, .int .i64 x.f3, .int .i64 x.f4, .int .i64 x.f5])
theorem ent_deep : Tryd.prog.keyTypeAt 2 50 = true := by kernel_rfl
theorem ent_row : (50 : TypeId) < Tryd.prog.types.size := of_decide_eq_true (by kernel_rfl)
theorem ent_laid : laidOutB Tryd.prog = true := by kernel_rfl
theorem ent_law : Keyed Tryd.prog 50 := Keyed.of_law (deep_law_laid ent_laid (m := 2) (by omega) ent_row ent_deep (by rw [Tryd.underlying50]))
theorem ent_kt : Tryd.prog.keyType 50 = true := by kernel_rfl
theorem ent_cells : Tryd.prog.cellsOf 50 = 6 := by kernel_rfl
theorem ent_zero (w : World) : (zeroValue 3).run Tryd.prog w = .ok (.int .i64 0) w := by kernel_rfl
theorem ent_lits (m : Nat) {x : S50} (h : okE x) : Tryd.prog.keyLits (m + 2) 50 [.int .i64 x.f0, .string x.f1, .int .i64 x.f2, .int .i64 x.f3, .int .i64 x.f4, .int .i64 x.f5] = some [.int .i64 x.f0, .string x.f1.data.toList, .int .i64 x.f2, .int .i64 x.f3, .int .i64 x.f4, .int .i64 x.f5] := by
  obtain ⟨h0, h1, h2, h3, h4, h5⟩ := h
  have hi : ∀ (n : Int), (Lit.int .i64 n).wf = true → Tryd.prog.keyLits (m + 1) 3 [.int .i64 n] = some [.int .i64 n] := fun n hn => by
    simp only [Program.keyLits, Tryd.underlying3, hn]; simp
  have hj : ∀ (n : Int), (Lit.int .i64 n).wf = true → Tryd.prog.keyLits (m + 1) 2 [.int .i64 n] = some [.int .i64 n] := fun n hn => by
    simp only [Program.keyLits, Tryd.underlying2, hn]; simp
  have hs : Tryd.prog.keyLits (m + 1) 9 [.string x.f1] = some [.string x.f1.data.toList] := by
    simp only [Program.keyLits, Tryd.underlying9]; simp [h1]
  have c3 : Tryd.prog.cellsOf 3 = 1 := by kernel_rfl
  have c2 : Tryd.prog.cellsOf 2 = 1 := by kernel_rfl
  have c9 : Tryd.prog.cellsOf 9 = 1 := by kernel_rfl
  rw [show m + 2 = (m + 1) + 1 from rfl]
  unfold Program.keyLits
  simp [Tryd.underlying50, ent_cells, c3, c2, c9, hi _ h0, hs, hj _ h2, hi _ h3, hi _ h4, hi _ h5]
theorem ent_key {x : S50} (h : okE x) : keyOf Tryd.prog 50 (entV x) = some (entK x) := by
  unfold keyOf
  rw [Tryd.underlying50]
  have hf : (entV x).formed Tryd.prog 50 = true := by simp [entV, Value.formed, Tryd.underlying50, ent_cells]
  simp only [ent_kt, hf, Bool.and_self, if_true]
  obtain ⟨m, hm⟩ : ∃ m, Tryd.prog.types.size + 1 = m + 2 := ⟨Tryd.prog.types.size - 1, by
    have h0 : 0 < Tryd.prog.types.size := Nat.lt_of_le_of_lt (Nat.zero_le _) ent_row
    omega⟩
  rw [hm, show (entV x).cells.toList = [.int .i64 x.f0, .string x.f1, .int .i64 x.f2, .int .i64 x.f3, .int .i64 x.f4, .int .i64 x.f5] from rfl, ent_lits _ h]
  rfl
theorem ent_inj {x y : S50} (hx : okE x) (hy : okE y) (h : entK x = entK y) : x = y := by
  have h1 := ent_key hx
  rw [h] at h1
  have := ent_law.inj h1 (ent_key hy)
  unfold entV at this
  cases x; cases y
  simpa using this
def fstI (x : S50) (L : List S50) : Option Nat := L.findIdx? (fun y => eqE y x)
theorem fstI_add (x : S50) (L : List S50) (y : S50) : fstI y (L ++ [x]) = match fstI y L with | some i => some i | none => if x = y then some L.length else none := by
  unfold fstI
  rw [List.findIdx?_append]
  cases h : L.findIdx? (fun z => eqE z y) with
  | some i => rfl
  | none =>
    by_cases e : x = y
    · rw [if_pos e]
      simp [List.findIdx?_cons, eqE_iff.2 e]
    · rw [if_neg e]
      have : eqE x y = false := by
        cases h' : eqE x y with
        | true => exact absurd (eqE_iff.1 h') e
        | false => rfl
      simp [List.findIdx?_cons, this]
def fstD (D : DataW Unit) (L : List S50) : Prop := Maps.IsMap D ∧ ∀ x, okE x → Maps.has D (entK x) = (fstI x L).isSome ∧ ∀ i, fstI x L = some i → D.atKey (entK x) (.lit (.int .i64 0)) = .lit (.int .i64 (i : Int))
theorem fstD_nil : fstD (.map []) [] := ⟨⟨[], rfl⟩, fun x _ => ⟨rfl, fun i h => by cases h⟩⟩
theorem fstD_put {D : DataW Unit} {L : List S50} (h : fstD D L) {x : S50} (hx : okE x) (hn : fstI x L = none) : fstD (D.put (entK x) (.lit (.int .i64 (L.length : Int)))) (L ++ [x]) := by
  refine ⟨?_, fun y hy => ?_⟩
  · obtain ⟨es, rfl⟩ := h.1
    exact ⟨_, rfl⟩
  · rw [fstI_add]
    by_cases e : x = y
    · subst e
      rw [hn, Maps.has_put_same h.1 (by trivial)]
      refine ⟨by simp, fun i hi => ?_⟩
      simp at hi
      rw [Maps.atKey_put_same h.1 (by trivial), hi]
    · have hk : entK y ≠ entK x := fun h' => e (ent_inj hx hy h'.symm)
      rw [Maps.has_put_other hk, Maps.atKey_put_other hk, if_neg e]
      obtain ⟨h1, h2⟩ := h.2 y hy
      cases hf : fstI y L with
      | none => rw [hf] at h1; exact ⟨h1, fun i hi => by cases hi⟩
      | some i => rw [hf] at h1; exact ⟨h1, fun j hj => by cases hj; exact h2 i hf⟩
theorem fstI_lt {x : S50} {L : List S50} {i : Nat} (h : fstI x L = some i) : i < L.length := by
  unfold fstI at h
  exact (List.findIdx?_eq_some_iff_getElem.1 h).1
def putI (x : S50) (L : List S50) : Int := match fstI x L with | some i => (i : Int) | none => (L.length : Int)
def putL (x : S50) (L : List S50) : List S50 := match fstI x L with | some _ => L | none => L ++ [x]
theorem look_run {gm n : Nat} {es : Array MapEntry} {clock : Nat} {D : DataW Unit} (HF : ∀ W : World, W.heap[gm]? = some (.map es clock) → W.ownsMap Tryd.prog 50 (plainElem Tryd.prog 3) gm n D) {x : S50} (hx : okE x) {w : World} (hw : w.heap[gm]? = some (.map es clock)) :
    ∃ c : Int, D.atKey (entK x) (.lit (.int .i64 0)) = .lit (.int .i64 c) ∧ ∀ w' : World, w'.heap[gm]? = some (.map es clock) → (Instr.lookup 99 (.map (some gm)) (entV x) true).run Tryd.prog w' = .ok (.tuple #[.int .i64 c, .bool (Maps.has D (entK x))]) w' := by
  have main : ∀ w' : World, w'.heap[gm]? = some (.map es clock) → ∃ c : Int, D.atKey (entK x) (.lit (.int .i64 0)) = .lit (.int .i64 c) ∧ (Instr.lookup 99 (.map (some gm)) (entV x) true).run Tryd.prog w' = .ok (.tuple #[.int .i64 c, .bool (Maps.has D (entK x))]) w' := fun w' h' => by
    obtain ⟨v, ps, hrun, hv⟩ := World.ownsMap.look_ok (HF w' h') ent_law Tryd.underlying99 (ent_zero w') (plainElem_int Tryd.underlying3 (by decide)) (ent_key hx)
    obtain ⟨c, rfl, hc, _⟩ := plainElem_int_inv Tryd.underlying3 hv
    exact ⟨c, congrArg Prod.fst hc, hrun⟩
  obtain ⟨c, hc, _⟩ := main w hw
  refine ⟨c, hc, fun w' h' => ?_⟩
  obtain ⟨c', hc', hr⟩ := main w' h'
  rw [hc] at hc'
  obtain rfl : c = c' := by simpa using hc'
  exact hr
theorem val_ {P : Program} {ops : Array Oper} {Q : Exit → Act → World → Prop} {oi : Oper} {a : Act} {w w1 : World} {K : Act → World → Prop} {N : Option Tmp} (v : Value) (hw : Region.wanted oi (yielded ops a.tmps) = true) (hN : oi.dst = N) (hrun : (execOp a.eval oi).run P w = .ok (.value v) w1)
    (h : K (a.put N v) w1) : if Region.wanted oi (yielded ops a.tmps) = true then Oper.wp P oi a w K Q else K (a.put N undef) w := by
  rw [if_pos hw]
  unfold Oper.wp
  rw [hrun]
  subst hN
  exact h
theorem last_ {P : Program} {ops : Array Oper} {Q : Exit → Act → World → Prop} {md : Region.Mode} {S : World → Prop} {ds : List Nat} {i : Nat} {N : Option Tmp} {oi : Oper} {fuel : Nat} {l : Array Bool} {a : Act} {w : World} (l' : Array Bool) (hi : ops[i]? = some oi) (hN : oi.dst = N) (hc : readyB md ops l l' i = true) (hd : i ∈ ds)
    (h : ∀ K : Act → World → Prop, (∀ a' w', wpAnyLast P md ops Q S ds fuel l' a' w' → K a' w') → if Region.wanted oi (yielded ops a.tmps) = true then Oper.wp P oi a w K Q else K (a.put N undef) w) :
    wpAnyLast P md ops Q S ds (fuel + 1) l a w := by
  subst hN
  simp only [readyB, Bool.and_eq_true, beq_iff_eq] at hc
  obtain ⟨h1, h2⟩ := hc
  subst h2
  refine wpAnyLast_all h1 (by simp) (fun j hj => ?_)
  obtain rfl : j = i := by simpa using hj
  exact wpOp_step hi (fun K' hK => h K' (fun a w hW => hK a w ⟨fun hn => absurd hd hn, hW⟩))
theorem app_run_ {P : Program} {o : Oper} {a : Act} {W w1 : World} {s x : Operand} {t : TypeId} {v u v1 : Value} (ho : o.op = .call { callee := .builtin .append, args := #[s, x], argTypes := #[t, t] }) (hs : a.eval s = v) (hx : a.eval x = u) (hr : (Builtin.append_ #[t, t] o.type #[v, u]).run P W = .ok v1 w1) : (execOp a.eval o).run P W = .ok (.value v1) w1 := by
  unfold execOp
  simp only [ho, resolve, invoke, builtin, Sem.run_bind, Sem.run_pure, Result.andThen_ok, List.map_toArray, List.map_cons, List.map_nil, hs, hx, hr]
theorem ent_info : (Tryd.prog.info? 50).map (fun i => (i.zero, i.size, i.bytes)) = some (some (.agg #[.int .i64 0, .string ⟨#[]⟩, .int .i64 0, .int .i64 0, .int .i64 0, .int .i64 0]), 6, 56) := by kernel_rfl
theorem ent_append {W : World} {base : Nat} {ok : Nat → Prop} {v : Value} {L : List S50} (x : S50) (hbase : base ≤ W.heap.size) (HO : Kd.R k50 50 W base ok v L) (hfresh : ∀ k, W.heap.size ≤ k → ok k) (hl : (L.length + 1) * 56 ≤ 140737488355328) (ty : TypeId) :
    ∃ v1 w1, (Builtin.append_ #[22, 22] ty #[v, .slice (some ⟨W.heap.size, 0, none⟩) 1 1]).run Tryd.prog (W.alloc (.cells #[.int .i64 x.f0, .string x.f1, .int .i64 x.f2, .int .i64 x.f3, .int .i64 x.f4, .int .i64 x.f5] 50)) = .ok v1 w1 ∧ Kd.R k50 50 w1 base ok v1 (L ++ [x]) ∧ W.grownBy w1 v.ownBlock ∧ Below base W w1 := by
  obtain ⟨h0, inner, hown, hr⟩ := HO
  obtain ⟨i0, hi, hzz⟩ := Option.map_eq_some_iff.1 ent_info
  simp only [Prod.mk.injEq] at hzz
  obtain ⟨hz0, hz1, hz2⟩ := hzz
  obtain ⟨v1, w1, hrun, hown1, hg, _, hat⟩ := run_append_own_at (P := Tryd.prog) (W.alloc (.cells #[.int .i64 x.f0, .string x.f1, .int .i64 x.f2, .int .i64 x.f3, .int .i64 x.f4, .int .i64 x.f5] 50)) base 22 ty 50 i0 _ 6 56 Tryd.underlying22 hi hz0 hz1 hz2 rfl (by omega) v L.length inner (hown.alloc _) ⟨W.heap.size, 0, none⟩ 1 1 [.int .i64 x.f0, .string x.f1, .int .i64 x.f2, .int .i64 x.f3, .int .i64 x.f4, .int .i64 x.f5] rfl
    (by simpa using World.news_of_block (cs := #[.int .i64 x.f0, .string x.f1, .int .i64 x.f2, .int .i64 x.f3, .int .i64 x.f4, .int .i64 x.f5]) (t := 50) (fr := (0, 0)) (heap_alloc_new W (.cells #[.int .i64 x.f0, .string x.f1, .int .i64 x.f2, .int .i64 x.f3, .int .i64 x.f4, .int .i64 x.f5] 50))) (by simp [Value.oneCell']) (by simp only [maxLen]; omega) hl (by simp; omega)
  have hb : Below base W w1 := ((Below.refl base W).alloc hbase _).grown hg (by simp; omega) (own_base hown)
  have hg' := World.grownBy.trans (World.grownBy_alloc W (.cells #[.int .i64 x.f0, .string x.f1, .int .i64 x.f2, .int .i64 x.f3, .int .i64 x.f4, .int .i64 x.f5] 50) v.ownBlock) hg
  refine ⟨v1, w1, hrun, Kd.R_appended (okp := fun k => ok k ∧ some k ≠ v.ownBlock) h0 hr (k50_mkM _ _ _ x) (fun k hk => hk) hfresh hown1 hg' ?_, hg', hb⟩
  rcases hat with hat | hat
  · exact .inl hat
  · exact .inr ⟨_, hat, by simp⟩
end Go.Proofs.YtldejfkplnejjaaDoor.P
namespace Go.Proofs.YtldejfkplnejjaaDoor.P
open Go.RowKit Go.Proofs.YtldejfkplnejjaaDoorW.PrintWords Go.Proofs.YtldejfkplnejjaaDoorW.PrintLast Go.Proofs.YtldejfkplnejjaaDoorW.PrintMore
open Go.Maps Go.WideMaps Go.MapKept
set_option linter.unusedVariables false
set_option linter.unusedSimpArgs false
structure Kp (F : Nat → Prop) (w w' : World) : Prop where
  os : w'.os = w.os
  tape : w'.tape = w.tape
  output : w'.output = w.output
  size : w.heap.size ≤ w'.heap.size
  block : ∀ k, k < w.heap.size → ¬ F k → w'.heap[k]? = w.heap[k]?
theorem Kp.refl (F : Nat → Prop) (w : World) : Kp F w w := ⟨rfl, rfl, rfl, Nat.le_refl _, fun _ _ _ => rfl⟩
theorem Kp.of_below {F : Nat → Prop} {w w' : World} (h : Below w.heap.size w w') : Kp F w w' := ⟨h.os, h.tape, h.output, h.size, fun k hk _ => h.block k hk⟩
theorem Kp.step {F : Nat → Prop} {w w1 w2 : World} (h : Kp F w w1) (hb : Below w1.heap.size w1 w2) : Kp F w w2 :=
  ⟨hb.os.trans h.os, hb.tape.trans h.tape, hb.output.trans h.output, Nat.le_trans h.size hb.size, fun k hk hf => (hb.block k (Nat.lt_of_lt_of_le hk h.size)).trans (h.block k hk hf)⟩
theorem Kp.drew {F : Nat → Prop} {w w1 : World} (h : Kp F w w1) : Kp F w w1.drew := h.step (below_drew (Below.refl _ _))
theorem Kp.grown {F : Nat → Prop} {w w1 w2 : World} {row : Option Nat} (h : Kp F w w1) (hg : w1.grownBy w2 row) (hr : ∀ k, row = some k → k < w.heap.size → F k) : Kp F w w2 :=
  ⟨hg.os.trans h.os, hg.tape.trans h.tape, hg.output.trans h.output, Nat.le_trans h.size hg.size, fun k hk hf => (hg.block k (Nat.lt_of_lt_of_le hk h.size) (fun e => hf (hr k e.symm hk))).trans (h.block k hk hf)⟩
theorem Kp.setCell {F : Nat → Prop} {w w1 : World} {p : Addr} (h : Kp F w w1) (hp : F p.block) (v : Value) : Kp F w (w1.setCell p v) :=
  ⟨h.os, h.tape, h.output, by have := h.size; have e : (w1.setCell p v).heap.size = w1.heap.size := by simp [World.setCell]; try split <;> simp
                              omega, fun k hk hf => (Below.heap_setCell w1 p v k (fun e => hf (e ▸ hp))).trans (h.block k hk hf)⟩
theorem Kp.below {F : Nat → Prop} {w w' : World} {B : Nat} (h : Kp F w w') (hF : ∀ k, F k → B ≤ k) (hB : B ≤ w.heap.size) : Below B w w' :=
  ⟨h.os, h.tape, h.output, h.size, fun k hk => h.block k (Nat.lt_of_lt_of_le hk hB) (fun hf => absurd (hF k hf) (Nat.not_le.2 hk))⟩
structure Stp (F : Nat → Prop) (w : World) (F' : Nat → Prop) (w' : World) : Prop where
  own : ∀ k, F' k → F k ∨ w.heap.size ≤ k
  kp : Kp F w w'
theorem Stp.refl (F : Nat → Prop) (w : World) : Stp F w F w := ⟨fun _ h => .inl h, Kp.refl F w⟩
theorem Stp.trans {F F1 F2 : Nat → Prop} {w w1 w2 : World} (h : Stp F w F1 w1) (k : Stp F1 w1 F2 w2) : Stp F w F2 w2 :=
  ⟨fun j hj => (k.own j hj).elim (h.own j) (fun h2 => .inr (Nat.le_trans h.kp.size h2)),
   ⟨k.kp.os.trans h.kp.os, k.kp.tape.trans h.kp.tape, k.kp.output.trans h.kp.output, Nat.le_trans h.kp.size k.kp.size, fun j hj hf =>
     (k.kp.block j (Nat.lt_of_lt_of_le hj h.kp.size) (fun h1 => (h.own j h1).elim hf (fun h2 => absurd hj (Nat.not_lt.2 h2)))).trans (h.kp.block j hj hf)⟩⟩
theorem Stp.step {F F1 : Nat → Prop} {w w1 w2 : World} (h : Stp F w F1 w1) (hb : Below w1.heap.size w1 w2) : Stp F w F1 w2 := ⟨h.own, h.kp.step hb⟩
theorem Stp.first {F F1 : Nat → Prop} {w w1 w2 : World} (hb : Below w.heap.size w w1) (h : Stp F w1 F1 w2) : Stp F w F1 w2 := (⟨fun _ h => .inl h, Kp.of_below hb⟩ : Stp F w F w1).trans h
def PB (w : World) (F : Nat → Prop) (g : Nat) (L : List S50) : Prop :=
  ∃ (gm : Nat) (Ao : Option Addr) (co : Nat) (D : DataW Unit) (es : Array MapEntry) (clock : Nat),
    (F g ∧ F gm ∧ gm ≠ g) ∧ fstD D L ∧ (∀ W : World, W.heap[gm]? = some (.map es clock) → W.ownsMap Tryd.prog 50 (plainElem Tryd.prog 3) gm L.length D) ∧
    w.heap[g]? = some (.cells #[.slice Ao L.length co, .map (some gm)] 103 (0, 0)) ∧ w.heap[gm]? = some (.map es clock) ∧
    Kd.R k50 50 w 0 (fun k => k ≠ g ∧ k ≠ gm ∧ F k) (.slice Ao L.length co) L ∧ ∀ k, F k → k < w.heap.size
theorem PB_kept {w w' : World} {F : Nat → Prop} {g : Nat} {L : List S50} (h : PB w F g L) (hs : w.heap.size ≤ w'.heap.size) (hk : ∀ k, F k → w'.heap[k]? = w.heap[k]?) : PB w' F g L := by
  obtain ⟨gm, Ao, co, D, es, clock, h1, HD, HF, BG, BM, HO, HL⟩ := h
  exact ⟨gm, Ao, co, D, es, clock, h1, HD, HF, (hk g h1.1).trans BG, (hk gm h1.2.1).trans BM, Kd.R_step HO (fun k ho _ => hk k ho.2.2), fun k hf => Nat.lt_of_lt_of_le (HL k hf) hs⟩
theorem PB_below {w w' : World} {F : Nat → Prop} {g : Nat} {L : List S50} (h : PB w F g L) (hb : Below w.heap.size w w') : PB w' F g L :=
  PB_kept h hb.size (fun k hf => by obtain ⟨_, _, _, _, _, _, _, _, _, _, _, _, HL⟩ := h; exact hb.block k (HL k hf))
theorem PB_lt {w : World} {F : Nat → Prop} {g : Nat} {L : List S50} (h : PB w F g L) : ∀ k, F k → k < w.heap.size := by
  obtain ⟨_, _, _, _, _, _, _, _, _, _, _, _, HL⟩ := h; exact HL
theorem PB_list {w : World} {F : Nat → Prop} {g : Nat} {L : List S50} (h : PB w F g L) : ∃ (gm : Nat) (Ao : Option Addr) (co : Nat), w.heap[g]? = some (.cells #[.slice Ao L.length co, .map (some gm)] 103 (0, 0)) ∧ Kd.R k50 50 w 0 (fun k => k ≠ g ∧ k ≠ gm ∧ F k) (.slice Ao L.length co) L := by
  obtain ⟨gm, Ao, co, D, es, clock, h1, HD, HF, BG, BM, HO, HL⟩ := h
  exact ⟨gm, Ao, co, BG, HO⟩
set_option maxHeartbeats 8000000 in
set_option maxRecDepth 100000 in
theorem rows_put.frame (x : S50) (hx : okE x) (L : List S50) (hL : L.length ≤ 1000000000000) (F : Nat → Prop) (g : Nat) (w : World) (h : PB w F g L) :
    Calls Tryd.prog 89 #[.pointer (some ⟨g, 0, none⟩), .agg #[.int .i64 x.f0, .string x.f1, .int .i64 x.f2, .int .i64 x.f3, .int .i64 x.f4, .int .i64 x.f5]] w fun e w' => ∃ F', e = .returned (.int .i64 (putI x L)) ∧ PB w' F' g (putL x L) ∧ Stp F w F' w' := by
  have HX : ∀ w2 : World, Below w.heap.size w w2 → PB w2 F g L := fun w2 hb2 => PB_below h hb2
  obtain ⟨gm, Ao, co, D, es, clock, ⟨hg0, hm0, hgm⟩, HD, HF, BG, BM, HO, HL⟩ := h
  have hv : ∀ k, (Value.slice Ao L.length co).ownBlock = some k → F k := fun k hk => (HO.1 k hk).2.2
  replace HO := Kd.R_mono (ok' := fun k => k ≠ g ∧ k ≠ gm ∧ (F k ∨ w.heap.size ≤ k)) HO (fun k hk => ⟨hk.1, hk.2.1, .inl hk.2.2⟩)
  obtain ⟨c, hc, hlook⟩ := look_run HF hx BM
  obtain ⟨hh, hi⟩ := HD.2 x hx
  rw [hh] at hlook
  replace HX := Aside0.mk HX
  replace hlook := Aside0.mk hlook
  replace HF := Aside0.mk HF
  replace HD := Aside0.mk HD
  replace HL := Aside0.mk HL
  replace hv := Aside0.mk hv
  replace hx := Aside0.mk hx
  replace hi := Aside0.mk hi
  have hbox_ : ∀ w2 : World, Below w.heap.size w w2 → Aside0 (w2.heap[g]? = some (.cells #[.slice Ao L.length co, .map (some gm)] 103 (0, 0))) ∧ Aside0 (w2.heap[gm]? = some (.map es clock)) ∧ Aside0 (Kd.R k50 50 w2 0 (fun k => k ≠ g ∧ k ≠ gm ∧ (F k ∨ w.heap.size ≤ k)) (.slice Ao L.length co) L) := fun w2 hb2 => ⟨⟨blk_below BG hb2⟩, ⟨blk_below BM hb2⟩, ⟨Kd.R_below HO hb2⟩⟩
  have hgx : ∀ gx : Nat, gx = w.heap.size → Aside0 (gx ≠ g) ∧ Aside0 (gx ≠ gm) ∧ Aside0 (some gx ≠ (Value.slice Ao L.length co).ownBlock) := fun gx e => ⟨⟨by have := blk_lt BG; omega⟩, ⟨by have := blk_lt BM; omega⟩, ⟨fun he => by have := Kd.R_lt HO gx he.symm; omega⟩⟩
  replace hbox_ := Aside0.mk hbox_
  replace hgx := Aside0.mk hgx
  clear BG BM HO
  cases hf : fstI x L with
  | some i =>
    obtain rfl : c = i := by
      have := hi.out i hf
      rw [hc] at this
      simpa using this
    rw [hf] at hlook
    have hres : putI x L = (i : Int) ∧ putL x L = L := by simp [putI, putL, hf]
    replace hres := Aside0.mk hres
    clear hf hc hh
    go_enter Tryd.func89, Tryd.ntmps89
    go_wp2_with (first | ((with_reducible refine gate_dst (N := 3) rfl ?_); refine box_event ?hg (N := 3) ?hd (cs := #[.int .i64 x.f0, .string x.f1, .int .i64 x.f2, .int .i64 x.f3, .int .i64 x.f4, .int .i64 x.f5]) (t := 50) ?hr ?_; (case hd => rfl); (case hg => rfl); (case hr => first | (go_simp; done) | (go_simp; rfl)); intro gx hg w2 hbox hb2; obtain ⟨BG, BM, HO⟩ := hbox_.out w2 hb2; have BX := Aside0.mk hbox; have HB := Aside0.mk hb2; have NXG := (hgx.out gx hg).1; have NXM := (hgx.out gx hg).2.1; have NXO := (hgx.out gx hg).2.2; clear hbox hb2 hg))
    refine start_ (n := 11) (S := fun w' => w'.cell? ⟨gx, 0, none⟩ = some (.int .i64 x.f0) ∧ w'.cell? ⟨gx, 1, none⟩ = some (.string x.f1) ∧ w'.cell? ⟨gx, 2, none⟩ = some (.int .i64 x.f2) ∧ w'.cell? ⟨gx, 3, none⟩ = some (.int .i64 x.f3) ∧ w'.cell? ⟨gx, 4, none⟩ = some (.int .i64 x.f4) ∧ w'.cell? ⟨gx, 5, none⟩ = some (.int .i64 x.f5) ∧ w'.cell? ⟨g, 0, none⟩ = some (.slice Ao L.length co) ∧ w'.cell? ⟨g, 1, none⟩ = some (.map (some gm)) ∧ w'.heap[gm]? = some (.map es clock)) (ds := []) #[false, false, false, false, false, false, false, false, false, false, false] (by kernel_rfl) rfl rfl ⟨(blk_cell BX.out 0).trans rfl, (blk_cell BX.out 1).trans rfl, (blk_cell BX.out 2).trans rfl, (blk_cell BX.out 3).trans rfl, (blk_cell BX.out 4).trans rfl, (blk_cell BX.out 5).trans rfl, (blk_cell BG.out 0).trans rfl, (blk_cell BG.out 1).trans rfl, BM.out⟩ (fun hHeld => ?_)
    refine pure_ (i := 0) (N := some 8) (v := ?_) (a' := ?_) #[true, false, false, false, false, false, false, false, false, false, false] rfl rfl (by kernel_rfl) (fun _ _ _ h => h) (Or.inl ⟨by rfl, ?_⟩) ?_ ?_
    rotate_left
    · intro w'
      go_simp
      with_reducible rfl
    rotate_left
    · simp only [Act.put, List.setIfInBounds_toArray, List.set_cons_zero, List.set_cons_succ, i64_w, i32_w]
      rfl
    refine pure_ (i := 1) (N := some 9) (v := ?_) (a' := ?_) #[true, true, false, false, false, false, false, false, false, false, false] rfl rfl (by kernel_rfl) (fun _ _ _ h => h) (Or.inl ⟨by rfl, ?_⟩) ?_ ?_
    rotate_left
    · intro w'
      go_simp
      with_reducible rfl
    rotate_left
    · simp only [Act.put, List.setIfInBounds_toArray, List.set_cons_zero, List.set_cons_succ, i64_w, i32_w]
      rfl
    refine pure_ (i := 2) (N := some 10) (v := ?_) (a' := ?_) #[true, true, true, false, false, false, false, false, false, false, false] rfl rfl (by kernel_rfl) (fun _ _ _ h => h) (Or.inl ⟨by rfl, ?_⟩) ?_ ?_
    rotate_left
    · intro w'
      go_simp
      with_reducible rfl
    rotate_left
    · simp only [Act.put, List.setIfInBounds_toArray, List.set_cons_zero, List.set_cons_succ, i64_w, i32_w]
      rfl
    refine take_ (i := 3) (N := some 11) (v := ?_) (a' := ?_) #[true, true, true, true, false, false, false, false, false, false, false] rfl rfl (by kernel_rfl) (fun _ _ _ h => h) (Or.inl ⟨by rfl, ?_⟩) hHeld ?_ ?_
    rotate_left
    · rintro w' ⟨s0, s1, s2, s3, s4, s5, s6, s7, s8⟩
      go_simp
      with_reducible rfl
    rotate_left
    · simp only [Act.put, List.setIfInBounds_toArray, List.set_cons_zero, List.set_cons_succ, i64_w, i32_w]
      rfl
    refine take_ (i := 4) (N := some 12) (v := ?_) (a' := ?_) #[true, true, true, true, true, false, false, false, false, false, false] rfl rfl (by kernel_rfl) (fun _ _ _ h => h) (Or.inl ⟨by rfl, ?_⟩) hHeld ?_ ?_
    rotate_left
    · rintro w' ⟨s0, s1, s2, s3, s4, s5, s6, s7, s8⟩
      go_simp
      with_reducible rfl
    rotate_left
    · simp only [Act.put, List.setIfInBounds_toArray, List.set_cons_zero, List.set_cons_succ, i64_w, i32_w]
      rfl
    refine take_ (i := 5) (N := some 13) (v := .tuple #[.int .i64 (i : Int), .bool true]) (a' := ?_) #[true, true, true, true, true, true, false, false, false, false, false] rfl rfl (by kernel_rfl) (fun _ _ _ h => h) (Or.inl ⟨by rfl, ?_⟩) hHeld ?_ ?_
    · rintro w' ⟨s0, s1, s2, s3, s4, s5, s6, s7, s8⟩
      have hrun := hlook.out w' s8
      unfold entV at hrun
      simp only [execOp]
      go_simp
    rotate_left
    · simp only [Act.put, List.setIfInBounds_toArray, List.set_cons_zero, List.set_cons_succ, i64_w, i32_w]
      rfl
    refine pure_ (i := 6) (N := some 7) (v := ?_) (a' := ?_) #[true, true, true, true, true, true, true, false, false, false, false] rfl rfl (by kernel_rfl) (fun _ _ _ h => h) (Or.inl ⟨by rfl, ?_⟩) ?_ ?_
    rotate_left
    · intro w'
      go_simp
      with_reducible rfl
    rotate_left
    · simp only [Act.put, List.setIfInBounds_toArray, List.set_cons_zero, List.set_cons_succ, i64_w, i32_w]
      rfl
    refine pure_ (i := 7) (N := some 14) (v := ?_) (a' := ?_) #[true, true, true, true, true, true, true, true, false, false, false] rfl rfl (by kernel_rfl) (fun _ _ _ h => h) (Or.inl ⟨by rfl, ?_⟩) ?_ ?_
    rotate_left
    · intro w'
      go_simp
      with_reducible rfl
    rotate_left
    · simp only [Act.put, List.setIfInBounds_toArray, List.set_cons_zero, List.set_cons_succ, i64_w, i32_w]
      rfl
    refine pure_ (i := 8) (N := some 15) (v := ?_) (a' := ?_) #[true, true, true, true, true, true, true, true, true, false, false] rfl rfl (by kernel_rfl) (fun _ _ _ h => h) (Or.inl ⟨by rfl, ?_⟩) ?_ ?_
    rotate_left
    · intro w'
      go_simp
      with_reducible rfl
    rotate_left
    · simp only [Act.put, List.setIfInBounds_toArray, List.set_cons_zero, List.set_cons_succ, i64_w, i32_w]
      rfl
    refine pure_ (i := 9) (N := some 5) (v := ?_) (a' := ?_) #[true, true, true, true, true, true, true, true, true, true, false] rfl rfl (by kernel_rfl) (fun _ _ _ h => h) (Or.inl ⟨by rfl, ?_⟩) ?_ ?_
    rotate_left
    · intro w'
      go_simp
      with_reducible rfl
    rotate_left
    · simp only [Act.put, List.setIfInBounds_toArray, List.set_cons_zero, List.set_cons_succ, i64_w, i32_w]
      rfl
    refine pure_ (i := 10) (N := some 6) (v := ?_) (a' := ?_) #[true, true, true, true, true, true, true, true, true, true, true] rfl rfl (by kernel_rfl) (fun _ _ _ h => h) (Or.inl ⟨by rfl, ?_⟩) ?_ ?_
    rotate_left
    · intro w'
      go_simp
      with_reducible rfl
    rotate_left
    · simp only [Act.put, List.setIfInBounds_toArray, List.set_cons_zero, List.set_cons_succ, i64_w, i32_w]
      rfl
    refine done_ (by kernel_rfl) ?_
    go_wp2
    go_ret
    refine ⟨F, by rw [hres.out.1]; rfl, ?_, ?_⟩
    · rw [hres.out.2]
      exact HX.out _ (by repeat (first | exact HB.out | apply below_drew))
    · exact ⟨fun _ h => .inl h, Kp.of_below (by repeat (first | exact HB.out | apply below_drew))⟩
  | none =>
    rw [hf] at hlook
    have hres : putI x L = (L.length : Int) ∧ putL x L = L ++ [x] := by simp [putI, putL, hf]
    replace hres := Aside0.mk hres
    replace hf := Aside0.mk hf
    have hlt : L.length < maxLen := by unfold maxLen; omega
    have hwl : (Lit.int .i64 (L.length : Int)).wf = true := WalkArith.wf_i64 (by omega)
    clear hc hh
    go_enter Tryd.func89, Tryd.ntmps89
    go_wp2_with (first | ((with_reducible refine gate_dst (N := 3) rfl ?_); refine box_event ?hg (N := 3) ?hd (cs := #[.int .i64 x.f0, .string x.f1, .int .i64 x.f2, .int .i64 x.f3, .int .i64 x.f4, .int .i64 x.f5]) (t := 50) ?hr ?_; (case hd => rfl); (case hg => rfl); (case hr => first | (go_simp; done) | (go_simp; rfl)); intro gx hg w2 hbox hb2; obtain ⟨BG, BM, HO⟩ := hbox_.out w2 hb2; have BX := Aside0.mk hbox; have HB := Aside0.mk hb2; have NXG := (hgx.out gx hg).1; have NXM := (hgx.out gx hg).2.1; have NXO := (hgx.out gx hg).2.2; clear hbox hb2 hg))
    refine start_ (n := 11) (S := fun w' => w'.cell? ⟨gx, 0, none⟩ = some (.int .i64 x.f0) ∧ w'.cell? ⟨gx, 1, none⟩ = some (.string x.f1) ∧ w'.cell? ⟨gx, 2, none⟩ = some (.int .i64 x.f2) ∧ w'.cell? ⟨gx, 3, none⟩ = some (.int .i64 x.f3) ∧ w'.cell? ⟨gx, 4, none⟩ = some (.int .i64 x.f4) ∧ w'.cell? ⟨gx, 5, none⟩ = some (.int .i64 x.f5) ∧ w'.cell? ⟨g, 0, none⟩ = some (.slice Ao L.length co) ∧ w'.cell? ⟨g, 1, none⟩ = some (.map (some gm)) ∧ w'.heap[gm]? = some (.map es clock)) (ds := []) #[false, false, false, false, false, false, false, false, false, false, false] (by kernel_rfl) rfl rfl ⟨(blk_cell BX.out 0).trans rfl, (blk_cell BX.out 1).trans rfl, (blk_cell BX.out 2).trans rfl, (blk_cell BX.out 3).trans rfl, (blk_cell BX.out 4).trans rfl, (blk_cell BX.out 5).trans rfl, (blk_cell BG.out 0).trans rfl, (blk_cell BG.out 1).trans rfl, BM.out⟩ (fun hHeld => ?_)
    refine pure_ (i := 0) (N := some 8) (v := ?_) (a' := ?_) #[true, false, false, false, false, false, false, false, false, false, false] rfl rfl (by kernel_rfl) (fun _ _ _ h => h) (Or.inl ⟨by rfl, ?_⟩) ?_ ?_
    rotate_left
    · intro w'
      go_simp
      with_reducible rfl
    rotate_left
    · simp only [Act.put, List.setIfInBounds_toArray, List.set_cons_zero, List.set_cons_succ, i64_w, i32_w]
      rfl
    refine pure_ (i := 1) (N := some 9) (v := ?_) (a' := ?_) #[true, true, false, false, false, false, false, false, false, false, false] rfl rfl (by kernel_rfl) (fun _ _ _ h => h) (Or.inl ⟨by rfl, ?_⟩) ?_ ?_
    rotate_left
    · intro w'
      go_simp
      with_reducible rfl
    rotate_left
    · simp only [Act.put, List.setIfInBounds_toArray, List.set_cons_zero, List.set_cons_succ, i64_w, i32_w]
      rfl
    refine pure_ (i := 2) (N := some 10) (v := ?_) (a' := ?_) #[true, true, true, false, false, false, false, false, false, false, false] rfl rfl (by kernel_rfl) (fun _ _ _ h => h) (Or.inl ⟨by rfl, ?_⟩) ?_ ?_
    rotate_left
    · intro w'
      go_simp
      with_reducible rfl
    rotate_left
    · simp only [Act.put, List.setIfInBounds_toArray, List.set_cons_zero, List.set_cons_succ, i64_w, i32_w]
      rfl
    refine take_ (i := 3) (N := some 11) (v := ?_) (a' := ?_) #[true, true, true, true, false, false, false, false, false, false, false] rfl rfl (by kernel_rfl) (fun _ _ _ h => h) (Or.inl ⟨by rfl, ?_⟩) hHeld ?_ ?_
    rotate_left
    · rintro w' ⟨s0, s1, s2, s3, s4, s5, s6, s7, s8⟩
      go_simp
      with_reducible rfl
    rotate_left
    · simp only [Act.put, List.setIfInBounds_toArray, List.set_cons_zero, List.set_cons_succ, i64_w, i32_w]
      rfl
    refine take_ (i := 4) (N := some 12) (v := ?_) (a' := ?_) #[true, true, true, true, true, false, false, false, false, false, false] rfl rfl (by kernel_rfl) (fun _ _ _ h => h) (Or.inl ⟨by rfl, ?_⟩) hHeld ?_ ?_
    rotate_left
    · rintro w' ⟨s0, s1, s2, s3, s4, s5, s6, s7, s8⟩
      go_simp
      with_reducible rfl
    rotate_left
    · simp only [Act.put, List.setIfInBounds_toArray, List.set_cons_zero, List.set_cons_succ, i64_w, i32_w]
      rfl
    refine take_ (i := 5) (N := some 13) (v := .tuple #[.int .i64 c, .bool false]) (a' := ?_) #[true, true, true, true, true, true, false, false, false, false, false] rfl rfl (by kernel_rfl) (fun _ _ _ h => h) (Or.inl ⟨by rfl, ?_⟩) hHeld ?_ ?_
    · rintro w' ⟨s0, s1, s2, s3, s4, s5, s6, s7, s8⟩
      have hrun := hlook.out w' s8
      unfold entV at hrun
      simp only [execOp]
      go_simp
    rotate_left
    · simp only [Act.put, List.setIfInBounds_toArray, List.set_cons_zero, List.set_cons_succ, i64_w, i32_w]
      rfl
    refine pure_ (i := 6) (N := some 7) (v := ?_) (a' := ?_) #[true, true, true, true, true, true, true, false, false, false, false] rfl rfl (by kernel_rfl) (fun _ _ _ h => h) (Or.inl ⟨by rfl, ?_⟩) ?_ ?_
    rotate_left
    · intro w'
      go_simp
      with_reducible rfl
    rotate_left
    · simp only [Act.put, List.setIfInBounds_toArray, List.set_cons_zero, List.set_cons_succ, i64_w, i32_w]
      rfl
    refine pure_ (i := 7) (N := some 14) (v := ?_) (a' := ?_) #[true, true, true, true, true, true, true, true, false, false, false] rfl rfl (by kernel_rfl) (fun _ _ _ h => h) (Or.inl ⟨by rfl, ?_⟩) ?_ ?_
    rotate_left
    · intro w'
      go_simp
      with_reducible rfl
    rotate_left
    · simp only [Act.put, List.setIfInBounds_toArray, List.set_cons_zero, List.set_cons_succ, i64_w, i32_w]
      rfl
    refine pure_ (i := 8) (N := some 15) (v := ?_) (a' := ?_) #[true, true, true, true, true, true, true, true, true, false, false] rfl rfl (by kernel_rfl) (fun _ _ _ h => h) (Or.inl ⟨by rfl, ?_⟩) ?_ ?_
    rotate_left
    · intro w'
      go_simp
      with_reducible rfl
    rotate_left
    · simp only [Act.put, List.setIfInBounds_toArray, List.set_cons_zero, List.set_cons_succ, i64_w, i32_w]
      rfl
    refine pure_ (i := 9) (N := some 5) (v := ?_) (a' := ?_) #[true, true, true, true, true, true, true, true, true, true, false] rfl rfl (by kernel_rfl) (fun _ _ _ h => h) (Or.inl ⟨by rfl, ?_⟩) ?_ ?_
    rotate_left
    · intro w'
      go_simp
      with_reducible rfl
    rotate_left
    · simp only [Act.put, List.setIfInBounds_toArray, List.set_cons_zero, List.set_cons_succ, i64_w, i32_w]
      rfl
    refine pure_ (i := 10) (N := some 6) (v := ?_) (a' := ?_) #[true, true, true, true, true, true, true, true, true, true, true] rfl rfl (by kernel_rfl) (fun _ _ _ h => h) (Or.inl ⟨by rfl, ?_⟩) ?_ ?_
    rotate_left
    · intro w'
      go_simp
      with_reducible rfl
    rotate_left
    · simp only [Act.put, List.setIfInBounds_toArray, List.set_cons_zero, List.set_cons_succ, i64_w, i32_w]
      rfl
    refine done_ (by kernel_rfl) ?_
    go_wp2
    clear hHeld
    refine start_ (n := 11) (S := fun w' => w'.cell? ⟨gx, 0, none⟩ = some (.int .i64 x.f0) ∧ w'.cell? ⟨gx, 1, none⟩ = some (.string x.f1) ∧ w'.cell? ⟨gx, 2, none⟩ = some (.int .i64 x.f2) ∧ w'.cell? ⟨gx, 3, none⟩ = some (.int .i64 x.f3) ∧ w'.cell? ⟨gx, 4, none⟩ = some (.int .i64 x.f4) ∧ w'.cell? ⟨gx, 5, none⟩ = some (.int .i64 x.f5) ∧ w'.cell? ⟨g, 0, none⟩ = some (.slice Ao L.length co) ∧ w'.cell? ⟨g, 1, none⟩ = some (.map (some gm)) ∧ w'.heap[gm]? = some (.map es clock)) (ds := [10]) #[false, false, false, false, false, false, false, false, false, false, false] (by kernel_rfl) rfl rfl ⟨(blk_cell BX.out 0).trans rfl, (blk_cell BX.out 1).trans rfl, (blk_cell BX.out 2).trans rfl, (blk_cell BX.out 3).trans rfl, (blk_cell BX.out 4).trans rfl, (blk_cell BX.out 5).trans rfl, (blk_cell BG.out 0).trans rfl, (blk_cell BG.out 1).trans rfl, BM.out⟩ (fun hHeld => ?_)
    refine pure_ (i := 0) (N := some 18) (v := ?_) (a' := ?_) #[true, false, false, false, false, false, false, false, false, false, false] rfl rfl (by kernel_rfl) (fun _ _ _ h => h) (Or.inl ⟨by rfl, ?_⟩) ?_ ?_
    rotate_left
    · intro w'
      go_simp
      with_reducible rfl
    rotate_left
    · simp only [Act.put, List.setIfInBounds_toArray, List.set_cons_zero, List.set_cons_succ, i64_w, i32_w]
      rfl
    refine pure_ (i := 1) (N := some 19) (v := ?_) (a' := ?_) #[true, true, false, false, false, false, false, false, false, false, false] rfl rfl (by kernel_rfl) (fun _ _ _ h => h) (Or.inl ⟨by rfl, ?_⟩) ?_ ?_
    rotate_left
    · intro w'
      go_simp
      with_reducible rfl
    rotate_left
    · simp only [Act.put, List.setIfInBounds_toArray, List.set_cons_zero, List.set_cons_succ, i64_w, i32_w]
      rfl
    refine pure_ (i := 2) (N := some 20) (v := ?_) (a' := ?_) #[true, true, true, false, false, false, false, false, false, false, false] rfl rfl (by kernel_rfl) (fun _ _ _ h => h) (Or.inl ⟨by rfl, ?_⟩) ?_ ?_
    rotate_left
    · intro w'
      go_simp
      with_reducible rfl
    rotate_left
    · simp only [Act.put, List.setIfInBounds_toArray, List.set_cons_zero, List.set_cons_succ, i64_w, i32_w]
      rfl
    refine take_ (i := 3) (N := some 21) (v := ?_) (a' := ?_) #[true, true, true, true, false, false, false, false, false, false, false] rfl rfl (by kernel_rfl) (fun _ _ _ h => h) (Or.inl ⟨by rfl, ?_⟩) hHeld ?_ ?_
    rotate_left
    · rintro w' ⟨s0, s1, s2, s3, s4, s5, s6, s7, s8⟩
      go_simp
      with_reducible rfl
    rotate_left
    · simp only [Act.put, List.setIfInBounds_toArray, List.set_cons_zero, List.set_cons_succ, i64_w, i32_w]
      rfl
    refine take_ (i := 4) (N := some 22) (v := ?_) (a' := ?_) #[true, true, true, true, true, false, false, false, false, false, false] rfl rfl (by kernel_rfl) (fun _ _ _ h => h) (Or.inl ⟨by rfl, ?_⟩) hHeld ?_ ?_
    rotate_left
    · rintro w' ⟨s0, s1, s2, s3, s4, s5, s6, s7, s8⟩
      go_simp
      with_reducible rfl
    rotate_left
    · simp only [Act.put, List.setIfInBounds_toArray, List.set_cons_zero, List.set_cons_succ, i64_w, i32_w]
      rfl
    refine pure_ (i := 5) (N := some 23) (v := ?_) (a' := ?_) #[true, true, true, true, true, true, false, false, false, false, false] rfl rfl (by kernel_rfl) (fun _ _ _ h => h) (Or.inl ⟨by rfl, ?_⟩) ?_ ?_
    rotate_left
    · intro w'
      go_simp
      with_reducible rfl
    rotate_left
    · simp only [Act.put, List.setIfInBounds_toArray, List.set_cons_zero, List.set_cons_succ, i64_w, i32_w]
      rfl
    refine pure_ (i := 6) (N := some 24) (v := ?_) (a' := ?_) #[true, true, true, true, true, true, true, false, false, false, false] rfl rfl (by kernel_rfl) (fun _ _ _ h => h) (Or.inl ⟨by rfl, ?_⟩) ?_ ?_
    rotate_left
    · intro w'
      go_simp
      with_reducible rfl
    rotate_left
    · simp only [Act.put, List.setIfInBounds_toArray, List.set_cons_zero, List.set_cons_succ, i64_w, i32_w]
      rfl
    refine pure_ (i := 7) (N := some 25) (v := ?_) (a' := ?_) #[true, true, true, true, true, true, true, true, false, false, false] rfl rfl (by kernel_rfl) (fun _ _ _ h => h) (Or.inl ⟨by rfl, ?_⟩) ?_ ?_
    rotate_left
    · intro w'
      go_simp
      with_reducible rfl
    rotate_left
    · simp only [Act.put, List.setIfInBounds_toArray, List.set_cons_zero, List.set_cons_succ, i64_w, i32_w]
      rfl
    refine take_ (i := 8) (N := some 26) (v := ?_) (a' := ?_) #[true, true, true, true, true, true, true, true, true, false, false] rfl rfl (by kernel_rfl) (fun _ _ _ h => h) (Or.inl ⟨by rfl, ?_⟩) hHeld ?_ ?_
    rotate_left
    · rintro w' ⟨s0, s1, s2, s3, s4, s5, s6, s7, s8⟩
      go_simp
      with_reducible rfl
    rotate_left
    · simp only [Act.put, List.setIfInBounds_toArray, List.set_cons_zero, List.set_cons_succ, i64_w, i32_w]
      rfl
    refine pure_ (i := 9) (N := some 27) (v := ?_) (a' := ?_) #[true, true, true, true, true, true, true, true, true, true, false] rfl rfl (by kernel_rfl) (fun _ _ _ h => h) (Or.inl ⟨by rfl, ?_⟩) ?_ ?_
    rotate_left
    · intro w'
      go_simp
      with_reducible rfl
    rotate_left
    · simp only [Act.put, List.setIfInBounds_toArray, List.set_cons_zero, List.set_cons_succ, i64_w, i32_w]
      rfl
    refine last_ (i := 10) (N := none) #[true, true, true, true, true, true, true, true, true, true, true] rfl rfl (by kernel_rfl) (by decide) (fun K hK => ?_)
    obtain ⟨w4, hrun4, hown4, hturn4⟩ := World.ownsMap.store (val := .int .i64 (L.length : Int)) (HF.out _ hHeld.2.2.2.2.2.2.2.2) ent_law Tryd.underlying99 hlt (ent_key hx.out) (plainElem_int Tryd.underlying3 hwl)
    unfold entV at hrun4
    refine skip_ (w1 := w4) (by rfl) rfl ?_ ?_
    · simp only [execOp]
      go_simp
    refine hK _ _ ?_
    refine done_ (by kernel_rfl) ?_
    have hg4 := hturn4.grown
    have n0_ := Aside0.mk (blk_grown (blk_drew (blk_drew BG.out)) hg4 (fun e => hgm (Option.some.inj e).symm))
    have n1_ := Aside0.mk (blk_grown (blk_drew (blk_drew BX.out)) hg4 (fun e => NXM.out (Option.some.inj e)))
    have n2_ := Aside0.mk (Kd.R_step (Kd.R_drew (Kd.R_drew HO.out)) (fun k hk hlt => hg4.block k hlt (fun e => hk.2.1 (Option.some.inj e))))
    have n3_ := Aside0.mk (Kp.grown (F := F) (Kp.drew (Kp.drew (Kp.of_below HB.out))) hg4 (fun k hk _ => by cases hk; exact hm0))
    obtain ⟨es2, clock2, hbm, F2, hs2, hD2⟩ := hown4
    have n4_ := Aside0.mk hbm
    replace HF := Aside0.mk (fun (W : World) (h : W.heap[gm]? = some (.map es2 clock2)) => (⟨es2, clock2, h, F2, hs2, hD2⟩ : W.ownsMap Tryd.prog 50 (plainElem Tryd.prog 3) gm (L.length + 1) _))
    clear BG BX HO HB BM hHeld hg4 hturn4 hbm F2 hs2 hD2 hlook hbox_ HX
    have BG := n0_
    have BX := n1_
    have HO := n2_
    have HB := n3_
    have BM := n4_
    clear n0_ n1_ n2_ n3_ n4_
    try go_wp2
    refine start_ (n := 11) (S := fun w' => w'.cell? ⟨gx, 0, none⟩ = some (.int .i64 x.f0) ∧ w'.cell? ⟨gx, 1, none⟩ = some (.string x.f1) ∧ w'.cell? ⟨gx, 2, none⟩ = some (.int .i64 x.f2) ∧ w'.cell? ⟨gx, 3, none⟩ = some (.int .i64 x.f3) ∧ w'.cell? ⟨gx, 4, none⟩ = some (.int .i64 x.f4) ∧ w'.cell? ⟨gx, 5, none⟩ = some (.int .i64 x.f5) ∧ w'.cell? ⟨g, 0, none⟩ = some (.slice Ao L.length co)) (ds := [10]) #[false, false, false, false, false, false, false, false, false, false, false] (by kernel_rfl) rfl rfl ⟨(blk_cell BX.out 0).trans rfl, (blk_cell BX.out 1).trans rfl, (blk_cell BX.out 2).trans rfl, (blk_cell BX.out 3).trans rfl, (blk_cell BX.out 4).trans rfl, (blk_cell BX.out 5).trans rfl, (blk_cell BG.out 0).trans rfl⟩ (fun hHeld => ?_)
    refine pure_ (i := 0) (N := some 28) (v := ?_) (a' := ?_) #[true, false, false, false, false, false, false, false, false, false, false] rfl rfl (by kernel_rfl) (fun _ _ _ h => h) (Or.inl ⟨by rfl, ?_⟩) ?_ ?_
    rotate_left
    · intro w'
      go_simp
      with_reducible rfl
    rotate_left
    · simp only [Act.put, List.setIfInBounds_toArray, List.set_cons_zero, List.set_cons_succ, i64_w, i32_w]
      rfl
    refine pure_ (i := 1) (N := some 29) (v := ?_) (a' := ?_) #[true, true, false, false, false, false, false, false, false, false, false] rfl rfl (by kernel_rfl) (fun _ _ _ h => h) (Or.inl ⟨by rfl, ?_⟩) ?_ ?_
    rotate_left
    · intro w'
      go_simp
      with_reducible rfl
    rotate_left
    · simp only [Act.put, List.setIfInBounds_toArray, List.set_cons_zero, List.set_cons_succ, i64_w, i32_w]
      rfl
    refine pure_ (i := 2) (N := some 30) (v := ?_) (a' := ?_) #[true, true, true, false, false, false, false, false, false, false, false] rfl rfl (by kernel_rfl) (fun _ _ _ h => h) (Or.inl ⟨by rfl, ?_⟩) ?_ ?_
    rotate_left
    · intro w'
      go_simp
      with_reducible rfl
    rotate_left
    · simp only [Act.put, List.setIfInBounds_toArray, List.set_cons_zero, List.set_cons_succ, i64_w, i32_w]
      rfl
    refine pure_ (i := 3) (N := some 31) (v := ?_) (a' := ?_) #[true, true, true, true, false, false, false, false, false, false, false] rfl rfl (by kernel_rfl) (fun _ _ _ h => h) (Or.inl ⟨by rfl, ?_⟩) ?_ ?_
    rotate_left
    · intro w'
      go_simp
      with_reducible rfl
    rotate_left
    · simp only [Act.put, List.setIfInBounds_toArray, List.set_cons_zero, List.set_cons_succ, i64_w, i32_w]
      rfl
    refine take_ (i := 4) (N := some 32) (v := ?_) (a' := ?_) #[true, true, true, true, true, false, false, false, false, false, false] rfl rfl (by kernel_rfl) (fun _ _ _ h => h) (Or.inl ⟨by rfl, ?_⟩) hHeld ?_ ?_
    rotate_left
    · rintro w' ⟨s0, s1, s2, s3, s4, s5, s6⟩
      go_simp
      with_reducible rfl
    rotate_left
    · simp only [Act.put, List.setIfInBounds_toArray, List.set_cons_zero, List.set_cons_succ, i64_w, i32_w]
      rfl
    refine take_ (i := 5) (N := some 33) (v := ?_) (a' := ?_) #[true, true, true, true, true, true, false, false, false, false, false] rfl rfl (by kernel_rfl) (fun _ _ _ h => h) (Or.inl ⟨by rfl, ?_⟩) hHeld ?_ ?_
    rotate_left
    · rintro w' ⟨s0, s1, s2, s3, s4, s5, s6⟩
      go_simp
      with_reducible rfl
    rotate_left
    · simp only [Act.put, List.setIfInBounds_toArray, List.set_cons_zero, List.set_cons_succ, i64_w, i32_w]
      rfl
    refine one_ (i := 6) (N := some 34) #[true, true, true, true, true, true, true, false, false, false, false] rfl rfl (by kernel_rfl) (by decide) (fun K hK => ?_)
    refine val_ (w1 := w4.drew.alloc (.cells #[.int .i64 x.f0, .string x.f1, .int .i64 x.f2, .int .i64 x.f3, .int .i64 x.f4, .int .i64 x.f5] 50)) (.slice (some ⟨w4.drew.heap.size, 0, none⟩) 1 1) (by rfl) rfl ?_ ?_
    · first | (go_simp; done) | (go_simp; rfl)
    refine hK.out _ _ ⟨(blk_cell (blk_alloc (blk_drew BX.out) _) 0).trans rfl, (blk_cell (blk_alloc (blk_drew BX.out) _) 1).trans rfl, (blk_cell (blk_alloc (blk_drew BX.out) _) 2).trans rfl, (blk_cell (blk_alloc (blk_drew BX.out) _) 3).trans rfl, (blk_cell (blk_alloc (blk_drew BX.out) _) 4).trans rfl, (blk_cell (blk_alloc (blk_drew BX.out) _) 5).trans rfl, (blk_cell (blk_alloc (blk_drew BG.out) _) 0).trans rfl⟩ (fun hHeld2 => ?_)
    have hm5 : ∀ k, w4.drew.heap.size ≤ k → k ≠ g ∧ k ≠ gm ∧ (F k ∨ w.heap.size ≤ k) := fun k hk => by have h1 := blk_lt BG.out; have h2 := blk_lt BM.out; have h3 : w4.heap.size ≤ k := hk; have h4 := HB.out.size; exact ⟨by omega, by omega, .inr (by omega)⟩
    obtain ⟨v5, w5, hrun5, HO5, hg5, hb5⟩ := ent_append x (W := w4.drew) (base := 0) (L := L) (v := .slice Ao L.length co) (Nat.zero_le _) (Kd.R_drew HO.out) hm5 (by omega) 22
    obtain ⟨L2, hL2⟩ : ∃ L2 : List S50, L2 = L ++ [x] := ⟨_, rfl⟩
    rw [← hL2] at HO5
    replace hL2 := Aside0.mk hL2
    have BG5 := blk_grown (blk_drew BG.out) hg5 (fun e => (HO.out.1 g e.symm).1 rfl)
    have BX5 := blk_grown (blk_drew BX.out) hg5 NXO.out
    have BM5 := blk_grown (blk_drew BM.out) hg5 (fun e => (HO.out.1 gm e.symm).2.1 rfl)
    refine one_ (i := 7) (N := some 35) #[true, true, true, true, true, true, true, true, false, false, false] rfl rfl (by kernel_rfl) (by decide) (fun K2 hK2 => ?_)
    refine val_ (w1 := w5) v5 (by rfl) rfl ?_ ?_
    · exact app_run_ rfl rfl rfl hrun5
    refine hK2.out _ _ ⟨(blk_cell BX5 0).trans rfl, (blk_cell BX5 1).trans rfl, (blk_cell BX5 2).trans rfl, (blk_cell BX5 3).trans rfl, (blk_cell BX5 4).trans rfl, (blk_cell BX5 5).trans rfl, (blk_cell BG5 0).trans rfl⟩ (fun hHeld3 => ?_)
    refine pure_ (i := 8) (N := some 36) (v := ?_) (a' := ?_) #[true, true, true, true, true, true, true, true, true, false, false] rfl rfl (by kernel_rfl) (fun _ _ _ h => h) (Or.inl ⟨by rfl, ?_⟩) ?_ ?_
    rotate_left
    · intro w'
      go_simp
      with_reducible rfl
    rotate_left
    · simp only [Act.put, List.setIfInBounds_toArray, List.set_cons_zero, List.set_cons_succ, i64_w, i32_w]
      rfl
    refine pure_ (i := 9) (N := some 37) (v := ?_) (a' := ?_) #[true, true, true, true, true, true, true, true, true, true, false] rfl rfl (by kernel_rfl) (fun _ _ _ h => h) (Or.inl ⟨by rfl, ?_⟩) ?_ ?_
    rotate_left
    · intro w'
      go_simp
      with_reducible rfl
    rotate_left
    · simp only [Act.put, List.setIfInBounds_toArray, List.set_cons_zero, List.set_cons_succ, i64_w, i32_w]
      rfl
    have hs26 : w5.cell? ⟨g, 0, none⟩ = some (.slice Ao L.length co) := (blk_cell BG5 0).trans rfl
    have hfs26 := blk_frozen BG5 0
    obtain ⟨A5, c5, e5⟩ := Kd.R_slice HO5
    subst e5
    refine last_ (i := 10) (N := none) #[true, true, true, true, true, true, true, true, true, true, true] rfl rfl (by kernel_rfl) (by decide) (fun K3 hK3 => ?_)
    refine skip_ (w1 := w5.setCell ⟨g, 0, none⟩ (.slice A5 L2.length c5)) (by rfl) rfl ?_ ?_
    · first | (go_simp; done) | (go_simp; rfl)
    refine hK3 _ _ ?_
    refine done_ (by kernel_rfl) ?_
    have hne5 : ∀ k, (Value.slice A5 L2.length c5).ownBlock = some k → k ≠ g ∧ k ≠ gm ∧ (F k ∨ w.heap.size ≤ k) := HO5.1
    have HBf := Kp.setCell (p := ⟨g, 0, none⟩) (Kp.grown (Kp.drew HB.out) hg5 (fun k hk _ => hv.out k hk)) hg0 (.slice A5 L2.length c5)
    have HP : PB (w5.setCell ⟨g, 0, none⟩ (.slice A5 L2.length c5)) (fun k => (F k ∨ w.heap.size ≤ k) ∧ k < (w5.setCell ⟨g, 0, none⟩ (.slice A5 L2.length c5)).heap.size) g L2 := by
      have BG6 := blk_put BG5 0 (.slice A5 L2.length c5) (cs' := #[.slice A5 L2.length c5, .map (some gm)]) rfl
      have BM6 := (Below.heap_setCell w5 ⟨g, 0, none⟩ (.slice A5 L2.length c5) gm hgm).trans BM5
      exact ⟨gm, A5, c5, _, es2, clock2, ⟨⟨.inl hg0, blk_lt BG6⟩, ⟨.inl hm0, blk_lt BM6⟩, hgm⟩, by rw [hL2.out]; exact fstD_put HD.out hx.out hf.out, fun W h => by rw [hL2.out, List.length_append]; exact HF.out W h, BG6, BM6,
        Kd.R_mono (Kd.R_bound (Kd.R_far (p := ⟨g, 0, none⟩) HO5 (fun k hk => hk.1) _)) (fun k hk => ⟨hk.1.1, hk.1.2.1, hk.1.2.2, hk.2.2.1⟩), fun k hk => hk.2⟩
    have hcg : (w5.setCell ⟨g, 0, none⟩ (.slice A5 L2.length c5)).cell? ⟨g, 0, none⟩ = some (.slice A5 L2.length c5) := (blk_cell (blk_put BG5 0 (.slice A5 L2.length c5) rfl) 0).trans rfl
    have hfg := blk_frozen (blk_put BG5 0 (.slice A5 L2.length c5) rfl) 0
    replace HP := Aside0.mk HP
    replace HBf := Aside0.mk HBf
    clear hHeld hHeld2 hHeld3 hs26 hfs26 BG5 BX5 BM5 HO5
    go_wp2
    go_ret
    refine ⟨(fun k => (F k ∨ w.heap.size ≤ k) ∧ k < (w5.setCell ⟨g, 0, none⟩ (.slice A5 L2.length c5)).heap.size), ?_, ?_, ?_⟩
    rotate_left
    · rw [hres.out.2, ← hL2.out]; exact HP.out
    · exact ⟨fun k hk => hk.1, HBf.out⟩
    · rw [hres.out.1]
      have e : wrap64 ((L2.length : Int) - 1) = (L.length : Int) := by
        rw [hL2.out, List.length_append]
        simp only [List.length_singleton]
        unfold wrap64
        omega
      first
        | exact congrArg (fun n => Ending.returned (Value.int .i64 n)) e
        | simp [e]
end Go.Proofs.YtldejfkplnejjaaDoor.P
namespace Go.Proofs.YtldejfkplnejjaaDoor.P
open Go.Maps Go.WideMaps Go.MapKept
open Go.RowKit Go.Proofs.YtldejfkplnejjaaDoorW.PrintWords Go.Proofs.YtldejfkplnejjaaDoorW.PrintLast Go.Proofs.YtldejfkplnejjaaDoorW.PrintMore
set_option linter.unusedVariables false
set_option linter.unusedSimpArgs false
def eT (s : ByteArray) : S50 := ⟨1, s, 0, 0, 0, 0⟩
def eA (k a : Int) : S50 := ⟨k, ⟨#[]⟩, 0, a, 0, 0⟩
def eM (k a b c : Int) : S50 := ⟨k, ⟨#[]⟩, 0, a, b, c⟩
theorem putL_len (x : S50) (L : List S50) : L.length ≤ (putL x L).length ∧ (putL x L).length ≤ L.length + 1 := by
  unfold putL
  split <;> simp
theorem putI_in (x : S50) (L : List S50) : 0 ≤ putI x L ∧ putI x L ≤ L.length := by
  unfold putI
  split
  · rename_i i h
    have := fstI_lt h
    omega
  · omega
theorem wf_0 : (Lit.int .i64 0).wf = true := by decide
theorem okE_T {s : ByteArray} (h : s.size ≤ maxLen) : okE (eT s) := ⟨(by decide : (Lit.int .i64 1).wf = true), h, wf_0, wf_0, wf_0, wf_0⟩
theorem okE_A {k a : Int} (hk : 0 ≤ k ∧ k ≤ 1000000000000) (h : 0 ≤ a) (h' : a ≤ 1000000000000) : okE (eA k a) := ⟨WalkArith.wf_i64 (by simp only [eA]; omega), Nat.zero_le _, wf_0, WalkArith.wf_i64 (by simp only [eA]; omega), wf_0, wf_0⟩
theorem okE_M {k a b c : Int} (hk : 0 ≤ k ∧ k ≤ 1000000000000) (ha : 0 ≤ a ∧ a ≤ 1000000000000) (hb : 0 ≤ b ∧ b ≤ 1000000000000) (hc : 0 ≤ c ∧ c ≤ 1000000000000) : okE (eM k a b c) :=
  ⟨WalkArith.wf_i64 (by simp only [eM]; omega), Nat.zero_le _, wf_0, WalkArith.wf_i64 (by simp only [eM]; omega), WalkArith.wf_i64 (by simp only [eM]; omega), WalkArith.wf_i64 (by simp only [eM]; omega)⟩
def claL (s : ByteArray) (L : List S50) : List S50 := putL (eA 3 (putI (eT s) L)) (putL (eT s) L)
def claI (s : ByteArray) (L : List S50) : Int := putI (eA 3 (putI (eT s) L)) (putL (eT s) L)
theorem claL_len (s : ByteArray) (L : List S50) : L.length ≤ (claL s L).length ∧ (claL s L).length ≤ L.length + 2 := by
  have h1 := putL_len (eT s) L
  have h2 := putL_len (eA 3 (putI (eT s) L)) (putL (eT s) L)
  unfold claL
  omega
theorem claI_in (s : ByteArray) (L : List S50) : 0 ≤ claI s L ∧ claI s L ≤ L.length + 1 := by
  have h1 := putL_len (eT s) L
  have h2 := putI_in (eA 3 (putI (eT s) L)) (putL (eT s) L)
  unfold claI
  omega
def memE (k : Int) (c n s : ByteArray) (L : List S50) : S50 := eM k (claI c L) (putI (eT n) (claL c L)) (putI (eT s) (putL (eT n) (claL c L)))
def memL (k : Int) (c n s : ByteArray) (L : List S50) : List S50 := putL (memE k c n s L) (putL (eT s) (putL (eT n) (claL c L)))
def memI (k : Int) (c n s : ByteArray) (L : List S50) : Int := putI (memE k c n s L) (putL (eT s) (putL (eT n) (claL c L)))
set_option maxHeartbeats 8000000 in
set_option maxRecDepth 100000 in
theorem rows_text.frame (s : ByteArray) (hs : s.size ≤ maxLen) (L : List S50) (F : Nat → Prop) (g : Nat) (w : World) (hL : L.length ≤ 900000000000) (h : PB w F g L) :
    Calls Tryd.prog 86 #[.pointer (some ⟨g, 0, none⟩), .string s] w fun e w' => ∃ F', e = .returned (.int .i64 (putI (eT s) L)) ∧ PB w' F' g (putL (eT s) L) ∧ Stp F w F' w' := by
  have hput := Aside0.mk (rows_put.frame (eT s) (okE_T hs) L (by omega) F g w h)
  clear h
  go_enter Tryd.func86, Tryd.ntmps86
  go_wp2_with (first | ((with_reducible refine gt_ 89 ?_); (try (refine gate_guard (by rfl) ?_; dsimp only)); refine gc_ 8 Tryd.func89 #[.pointer (some ⟨g, 0, none⟩), .agg #[.int .i64 1, .string s, .int .i64 0, .int .i64 0, .int .i64 0, .int .i64 0]] ?_; refine (hput.out).mono ?_; rintro e w1 ⟨F1, rfl, hp, hS⟩; refine ⟨_, rfl, ?_⟩; replace hp := Aside0.mk hp; replace hS := Aside0.mk hS))
  go_ret
  exact ⟨_, rfl, hp.out, hS.out⟩
set_option maxHeartbeats 8000000 in
set_option maxRecDepth 100000 in
theorem rows_class.frame (s : ByteArray) (hs : s.size ≤ maxLen) (L : List S50) (F : Nat → Prop) (g : Nat) (w : World) (hL : L.length ≤ 900000000000) (h : PB w F g L) :
    Calls Tryd.prog 74 #[.pointer (some ⟨g, 0, none⟩), .string s] w fun e w' => ∃ F', e = .returned (.int .i64 (claI s L)) ∧ PB w' F' g (claL s L) ∧ Stp F w F' w' := by
  have h1 := Aside0.mk (rows_text.frame s hs L F g w hL h)
  have hl := putL_len (eT s) L
  have hi := putI_in (eT s) L
  have hput := Aside0.mk (fun (F1 : Nat → Prop) (w1 : World) (h : PB w1 F1 g (putL (eT s) L)) => rows_put.frame (eA 3 (putI (eT s) L)) (okE_A (by omega) hi.1 (by omega)) (putL (eT s) L) (by omega) F1 g w1 h)
  clear h hl hi
  unfold claI claL
  generalize putI (eT s) L = a at h1 hput ⊢
  go_enter Tryd.func74, Tryd.ntmps74
  go_wp2_with (first | ((with_reducible refine gt_ 86 ?_); (try (refine gate_guard (by rfl) ?_; dsimp only)); refine gc_ 8 Tryd.func86 #[.pointer (some ⟨g, 0, none⟩), .string s] ?_; refine (h1.out).mono ?_; rintro e w1 ⟨F1, rfl, hp, hS⟩; refine ⟨_, rfl, ?_⟩; replace hp := Aside0.mk hp; replace hS := Aside0.mk hS) | ((with_reducible refine gt_ 89 ?_); (try (refine gate_guard (by rfl) ?_; dsimp only)); refine gc_ 10 Tryd.func89 #[.pointer (some ⟨g, 0, none⟩), .agg #[.int .i64 3, .string (⟨#[]⟩ : ByteArray), .int .i64 0, .int .i64 a, .int .i64 0, .int .i64 0]] ?_; refine (hput.out _ _ hp.out).mono ?_; rintro e w2 ⟨F2, rfl, hp2, hs2⟩; refine ⟨_, rfl, ?_⟩; have n0_ := Aside0.mk hp2; have n1_ := Aside0.mk (hS.out.trans hs2); clear hp hS hp2 hs2; have hp := n0_; have hS := n1_; clear n0_ n1_))
  go_ret
  exact ⟨_, rfl, hp.out, hS.out⟩
set_option maxHeartbeats 8000000 in
set_option maxRecDepth 100000 in
theorem rows_member.frame (k : Int) (hk : 0 ≤ k ∧ k ≤ 1000) (c n s : ByteArray) (hc : c.size ≤ maxLen) (hn : n.size ≤ maxLen) (hs : s.size ≤ maxLen) (L : List S50) (F : Nat → Prop) (g : Nat) (w : World) (hL : L.length ≤ 100000000000) (h : PB w F g L) :
    Calls Tryd.prog 76 #[.pointer (some ⟨g, 0, none⟩), .int .i64 k, .string c, .string n, .string s] w fun e w' => ∃ F', e = .returned (.int .i64 (memI k c n s L)) ∧ PB w' F' g (memL k c n s L) ∧ Stp F w F' w' := by
  have h1 := Aside0.mk (rows_class.frame c hc L F g w (by omega) h)
  have m1 := claL_len c L
  have m2 := claI_in c L
  unfold memL memI memE
  generalize e1 : claL c L = L1 at h1 m1 ⊢
  generalize e2 : claI c L = a at h1 m2 ⊢
  have m3 := putL_len (eT n) L1
  have m4 := putI_in (eT n) L1
  have h2 := Aside0.mk (fun (F1 : Nat → Prop) (w1 : World) (h : PB w1 F1 g L1) => rows_text.frame n hn L1 F1 g w1 (by omega) h)
  generalize e3 : putL (eT n) L1 = L2 at h2 m3 ⊢
  generalize e4 : putI (eT n) L1 = b at h2 m4 ⊢
  have m5 := putL_len (eT s) L2
  have m6 := putI_in (eT s) L2
  have h3 := Aside0.mk (fun (F1 : Nat → Prop) (w1 : World) (h : PB w1 F1 g L2) => rows_text.frame s hs L2 F1 g w1 (by omega) h)
  generalize e5 : putL (eT s) L2 = L3 at h3 m5 ⊢
  generalize e6 : putI (eT s) L2 = d at h3 m6 ⊢
  have h4 := Aside0.mk (fun (F1 : Nat → Prop) (w1 : World) (h : PB w1 F1 g L3) => rows_put.frame (eM k a b d) (okE_M (by omega) (by omega) (by omega) (by omega)) L3 (by omega) F1 g w1 h)
  clear h e1 e2 e3 e4 e5 e6 m1 m2 m3 m4 m5 m6
  go_enter Tryd.func76, Tryd.ntmps76
  go_wp2_with (first | ((with_reducible refine gt_ 74 ?_); (try (refine gate_guard (by rfl) ?_; dsimp only)); refine gc_ 15 Tryd.func74 #[.pointer (some ⟨g, 0, none⟩), .string c] ?_; refine (h1.out).mono ?_; rintro e w1 ⟨F1, rfl, hp, hS⟩; refine ⟨_, rfl, ?_⟩; replace hp := Aside0.mk hp; replace hS := Aside0.mk hS) | ((with_reducible refine gt_ 86 ?_); (try (refine gate_guard (by rfl) ?_; dsimp only)); refine gc_ 18 Tryd.func86 #[.pointer (some ⟨g, 0, none⟩), .string n] ?_; refine (h2.out _ _ hp.out).mono ?_; rintro e w2 ⟨F2, rfl, hp2, hs2⟩; refine ⟨_, rfl, ?_⟩; have n0_ := Aside0.mk hp2; have n1_ := Aside0.mk (hS.out.trans hs2); clear hp hS hp2 hs2; have hp := n0_; have hS := n1_; clear n0_ n1_) | ((with_reducible refine gt_ 86 ?_); (try (refine gate_guard (by rfl) ?_; dsimp only)); refine gc_ 25 Tryd.func86 #[.pointer (some ⟨g, 0, none⟩), .string s] ?_; refine (h3.out _ _ hp.out).mono ?_; rintro e w3 ⟨F3, rfl, hp2, hs2⟩; refine ⟨_, rfl, ?_⟩; have n0_ := Aside0.mk hp2; have n1_ := Aside0.mk (hS.out.trans hs2); clear hp hS hp2 hs2; have hp := n0_; have hS := n1_; clear n0_ n1_) | ((with_reducible refine gt_ 89 ?_); (try (refine gate_guard (by rfl) ?_; dsimp only)); refine gc_ 27 Tryd.func89 #[.pointer (some ⟨g, 0, none⟩), .agg #[.int .i64 k, .string (⟨#[]⟩ : ByteArray), .int .i64 0, .int .i64 a, .int .i64 b, .int .i64 d]] ?_; refine (h4.out _ _ hp.out).mono ?_; rintro e w4 ⟨F4, rfl, hp2, hs2⟩; refine ⟨_, rfl, ?_⟩; have n0_ := Aside0.mk hp2; have n1_ := Aside0.mk (hS.out.trans hs2); clear hp hS hp2 hs2; have hp := n0_; have hS := n1_; clear n0_ n1_))
  go_ret
  exact ⟨_, rfl, hp.out, hS.out⟩
end Go.Proofs.YtldejfkplnejjaaDoor.P
namespace Go.Proofs.YtldejfkplnejjaaDoor.P
open Go.Maps Go.WideMaps Go.MapKept Go.WideElems
open Go.RowKit Go.Proofs.YtldejfkplnejjaaDoorW.PrintWords Go.Proofs.YtldejfkplnejjaaDoorW.PrintLast Go.Proofs.YtldejfkplnejjaaDoorW.PrintMore
set_option linter.unusedVariables false
set_option linter.unusedSimpArgs false
theorem slice_from (w : World) (ga n m c : Nat) (h : n ≤ m) (hc : m ≤ c) (hn : n < c) : (Instr.slice 22 (.slice (some ⟨ga, 0, none⟩) m c) (some (.int .i64 (n : Int))) none none).run Tryd.prog w = .ok (.slice (some ⟨ga, n * 6, none⟩) (m - n) (c - n)) w := by
  have hs : Tryd.prog.cellsOf 50 = 6 := ent_cells
  have h1 : ¬ (c ≤ n) := by omega
  have h2 : ¬ (c = n) := by omega
  unfold Instr.slice
  simp [go_sem, Tryd.underlying22, hs, h, hc, h1, h2, add_plain]
theorem slice_upto (w : World) (ga n m c : Nat) (h : n ≤ m) (hc : m ≤ c) : (Instr.slice 22 (.slice (some ⟨ga, 0, none⟩) m c) none (some (.int .i64 (n : Int))) none).run Tryd.prog w = .ok (.slice (some ⟨ga, 0, none⟩) n c) w := by
  have hs : Tryd.prog.cellsOf 50 = 6 := ent_cells
  have h1 : n ≤ c := by omega
  unfold Instr.slice
  simp [go_sem, Tryd.underlying22, hs, h, hc, h1, add_plain]
theorem cells_row {w : World} {ga n : Nat} {xs : List S50} (h : Kd.C k50 w (some ⟨ga, 0, none⟩) n xs) {p q : Nat} {x : S50} (hp : p < n) (hx : xs[p]? = some x) (hq : q = p * 6) :
    w.cell? ⟨ga, q, none⟩ = some (.int .i64 x.f0) ∧ w.cell? ⟨ga, q + 1, none⟩ = some (.string x.f1) ∧ w.cell? ⟨ga, q + 2, none⟩ = some (.int .i64 x.f2) ∧ w.cell? ⟨ga, q + 3, none⟩ = some (.int .i64 x.f3) ∧ w.cell? ⟨ga, q + 4, none⟩ = some (.int .i64 x.f4) ∧ w.cell? ⟨ga, q + 5, none⟩ = some (.int .i64 x.f5) := by
  subst hq
  obtain ⟨ad, e, h0, h1, h2, h3, h4, h5⟩ := at_T50 h (p : Int) (by omega) (by omega)
  obtain rfl := Option.some.inj e
  have hr : rd_T50 xs (p : Int) = x := by simp [rd_T50, List.getD, hx]
  have e2 : (⟨ga, 0, none⟩ : Addr).add ((p : Int).toNat * 6) = ⟨ga, p * 6, none⟩ := by rw [Int.toNat_natCast]; exact add_plain _ _
  rw [hr, e2] at h0 h1 h2 h3 h4 h5
  exact ⟨h0, h1, h2, h3, h4, h5⟩
theorem set_far {W : World} {k : Nat} {o : Obj} {p : Addr} {u : Value} (h : W.heap[k]? = some o) (hk : k ≠ p.block) : (W.setCell p u).heap[k]? = some o := (Below.heap_setCell W p u k hk).trans h
theorem Kp.setNew {F : Nat → Prop} {w w1 : World} {p : Addr} (h : Kp F w w1) (hp : w.heap.size ≤ p.block) (v : Value) : Kp F w (w1.setCell p v) :=
  ⟨h.os, h.tape, h.output, by have := h.size; have e : (w1.setCell p v).heap.size = w1.heap.size := by simp [World.setCell]; try split <;> simp
                              omega, fun k hk hf => (Below.heap_setCell w1 p v k (by omega)).trans (h.block k hk hf)⟩
theorem lay_ {P : Program} {c : Code} {Q : Exit → Act → World → Prop} {a : Act} {W : World} (S : World → Prop) (h : S W) (k : ∀ V, S V → c.wp P Q a V) : c.wp P Q a W := k W h
def CutD (D : DataW Unit) (L : List S50) (R : List S50) : Prop := Maps.IsMap D ∧ ∀ y, okE y → (y ∈ R → Maps.has D (entK y) = false) ∧ (y ∉ R → Maps.has D (entK y) = (fstI y L).isSome ∧ ∀ i, fstI y L = some i → D.atKey (entK y) (.lit (.int .i64 0)) = .lit (.int .i64 (i : Int)))
theorem fstI_mem {x : S50} {L : List S50} (h : x ∈ L) : ∃ i, fstI x L = some i := by
  cases hf : fstI x L with
  | some i => exact ⟨i, rfl⟩
  | none =>
    unfold fstI at hf
    rw [List.findIdx?_eq_none_iff] at hf
    have := hf x h
    rw [eqE_iff.2 rfl] at this
    cases this
theorem fstI_none {x : S50} {L : List S50} (h : x ∉ L) : fstI x L = none := by
  unfold fstI
  rw [List.findIdx?_eq_none_iff]
  intro y hy
  cases he : eqE y x with
  | false => rfl
  | true => exact absurd (eqE_iff.1 he ▸ hy) h
theorem fstI_app {x : S50} (L E : List S50) (h : x ∉ E) : fstI x (L ++ E) = fstI x L := by
  unfold fstI
  rw [List.findIdx?_append]
  have h2 := fstI_none h
  unfold fstI at h2
  rw [h2]
  simp
theorem CutD.step {D : DataW Unit} {L E : List S50} {j : Nat} {x : S50} (h : CutD D L (E.take j)) (hx : E[j]? = some x) (hok : okE x) : CutD (D.del (entK x)) L (E.take (j + 1)) := by
  have ht : E.take (j + 1) = E.take j ++ [x] := by rw [List.take_add_one, hx]; rfl
  refine ⟨?_, fun y hy => ?_⟩
  · obtain ⟨es, rfl⟩ := h.1
    exact ⟨_, rfl⟩
  · rw [ht]
    by_cases e : y = x
    · subst e
      exact ⟨fun _ => Maps.has_del_same, fun h' => absurd (by simp) h'⟩
    · have hk : entK y ≠ entK x := fun h' => e (ent_inj hy hok h')
      rw [Maps.has_del_other hk, Maps.atKey_del_other hk]
      obtain ⟨h1, h2⟩ := h.2 y hy
      exact ⟨fun h' => h1 (by simpa [e] using h'), fun h' => h2 (fun h3 => h' (by simp [h3]))⟩
theorem CutD.fst {D : DataW Unit} {L0 E : List S50} (h : CutD D (L0 ++ E) E) (hE : ∀ x ∈ E, x ∉ L0) : fstD D L0 := by
  refine ⟨h.1, fun y hy => ?_⟩
  obtain ⟨h1, h2⟩ := h.2 y hy
  by_cases hm : y ∈ E
  · rw [h1 hm, fstI_none (hE y hm)]
    exact ⟨rfl, fun i hi => by cases hi⟩
  · have := h2 hm
    rwa [fstI_app _ _ hm] at this
theorem own_drop {W : World} {gm n : Nat} {D D' : DataW Unit} (h : W.ownsMap Tryd.prog 50 (plainElem Tryd.prog 3) gm n D') (hD : Maps.size D' + 1 = Maps.size D) (hn : Maps.size D ≤ n) : W.ownsMap Tryd.prog 50 (plainElem Tryd.prog 3) gm (n - 1) D' := by
  obtain ⟨es, clock, hb, F, hs, rfl⟩ := h
  refine ⟨es, clock, hb, F, ?_, rfl⟩
  simp [Maps.size, length_sorted] at hD
  have hD2 : es.size + 1 = Maps.size D := hD
  omega
set_option maxHeartbeats 8000000 in
set_option maxRecDepth 100000 in
theorem rows_cut.frame (L0 E : List S50) (hE : E.Nodup) (hx : ∀ x ∈ E, x ∉ L0 ∧ okE x) (hL : L0.length + E.length ≤ 1000000000) (hpos : 0 < E.length) (F : Nat → Prop) (g : Nat) (w : World) (h : PB w F g (L0 ++ E)) :
    Calls Tryd.prog 104 #[.pointer (some ⟨g, 0, none⟩), .int .i64 (L0.length : Int)] w fun e w' => ∃ F', e = .returned (.tuple #[]) ∧ PB w' F' g L0 ∧ Stp F w F' w' := by
  obtain ⟨gm, Ao, co, D, es, clock, ⟨hg0, hm0, hgm⟩, HD, HF, BG, BM, HO, HL⟩ := h
  obtain ⟨ga, cap, hAo, _, hga, _⟩ := Kd.R_form HO (by simp; omega)
  obtain ⟨rfl, hco⟩ : Ao = some ⟨ga, 0, none⟩ ∧ co = cap := by simpa using hAo
  clear hAo hco
  have hr := Kd.R_reads' HO
  have hcg : w.cell? ⟨g, 0, none⟩ = some (.slice (some ⟨ga, 0, none⟩) (L0 ++ E).length co) := (blk_cell BG 0).trans rfl
  have hfg := blk_frozen BG 0
  have hlen : (L0 ++ E).length = L0.length + E.length := List.length_append
  have hc1 := hr.2.1
  rw [hlen] at hcg hc1
  have hsl := fun w => slice_from w ga L0.length (L0.length + E.length) co (by omega) (by omega) (by omega)
  replace hlen := Aside0.mk hlen
  replace HL := Aside0.mk HL
  replace hE := Aside0.mk hE
  replace hx := Aside0.mk hx
  go_enter Tryd.func104, Tryd.ntmps104
  go_wp2
  have hRR := Aside0.mk HO
  have hBG := Aside0.mk BG
  have hBM := Aside0.mk BM
  have hHF := Aside0.mk HF
  have hCD : Aside0 (CutD D (L0 ++ E) (E.take 0)) := ⟨⟨HD.1, fun y hy => ⟨fun h => by simp at h, fun _ => HD.2 y hy⟩⟩⟩
  clear HO BG BM HF HD hr hcg hfg hsl
  go_loopg [13] E.length (fun kq v13 w' => ∃ (j : Nat) (D : DataW Unit) (es : Array MapEntry) (clock : Nat), v13 = .int .i64 (j : Int) ∧ Aside0 (j + kq = E.length) ∧ Aside0 (CutD D (L0 ++ E) (E.take j)) ∧ Aside0 (∀ W : World, W.heap[gm]? = some (.map es clock) → W.ownsMap Tryd.prog 50 (plainElem Tryd.prog 3) gm ((L0 ++ E).length - j) D) ∧ Aside0 (w'.heap[gm]? = some (.map es clock)) ∧ Aside0 (w'.heap[g]? = some (.cells #[.slice (some ⟨ga, 0, none⟩) (L0 ++ E).length co, .map (some gm)] 103 (0, 0))) ∧ Aside0 (Kd.R k50 50 w' 0 (fun k => k ≠ g ∧ k ≠ gm ∧ F k) (.slice (some ⟨ga, 0, none⟩) (L0 ++ E).length co) (L0 ++ E)) ∧ Aside0 (Kp F w w'))
  case atStart => exact ⟨0, D, es, clock, rfl, ⟨by omega⟩, hCD, ⟨by simpa using hHF.out⟩, hBM, hBG, hRR, ⟨Kp.refl F w⟩⟩
  case round =>
    clear hRR hBG hBM hHF hCD
    obtain ⟨j, D, es, clock, rfl, hj, HD, HF, BM, BG, HO, HB⟩ := hrel
    by_cases hlt : j < E.length
    · have hltb : decide ((j : Int) < (E.length : Int)) = true := decide_eq_true (by omega)
      obtain ⟨x, hxj⟩ : ∃ x, E[j]? = some x := ⟨E[j], List.getElem?_eq_getElem hlt⟩
      have hok : okE x := (hx.out x (List.mem_of_getElem? hxj)).2
      obtain ⟨hx0, hx1, hx2, hx3, hx4, hx5⟩ := cells_row (Kd.R_reads' HO.out).2.2 (p := L0.length + j) (q := L0.length * 6 + j * 6) (x := x) (by rw [hlen.out]; omega) (by rw [List.getElem?_append_right (by omega)]; simpa using hxj) (by omega)
      replace hxj := Aside0.mk hxj
      replace hok := Aside0.mk hok
      go_wp2_with (first | ((with_reducible refine d_ 5 ?_); refine X_ 5 #[.int .i64 0, .string (⟨#[]⟩ : ByteArray), .int .i64 0, .int .i64 0, .int .i64 0, .int .i64 0] 50 ?_; intro gx hg w2 hbox hb; have GX := Aside0.mk (Nat.le_trans HB.out.size (Nat.le_of_eq hg.symm)); have BX := Aside0.mk hbox; have NXG := Aside0.mk (xx_ hg BG); have NXM := Aside0.mk (x_ (g := gm) hg BM.out); have BG := kb_ BG hb; have BM := Aside0.mk (blk_below BM.out hb); have HO := rb_ HO hb; have HB := Aside0.mk (HB.out.step hb); clear hb hbox hg; obtain ⟨q0, q1, q2, q3, q4, q5, f0, f1, f2, f3, f4, f5⟩ := c6_ BX.out))
      refine lay_ (fun V => V.heap[gx]? = some (.cells #[.int .i64 x.f0, .string x.f1, .int .i64 x.f2, .int .i64 x.f3, .int .i64 x.f4, .int .i64 x.f5] 50 (0, 0)) ∧ V.heap[g]? = some (.cells #[.slice (some ⟨ga, 0, none⟩) (L0 ++ E).length co, .map (some gm)] 103 (0, 0)) ∧ V.heap[gm]? = some (.map es clock) ∧ Kd.R k50 50 V 0 (fun k => k ≠ g ∧ k ≠ gm ∧ F k) (.slice (some ⟨ga, 0, none⟩) (L0 ++ E).length co) (L0 ++ E) ∧ Kp F w V) ⟨P_, P_, by repeat (first | (with_reducible exact BM.out) | refine set_far ?_ NXM.out), by repeat (first | (with_reducible exact HO.out) | (with_reducible refine Kd.R_far ?_ (fun k hk => by have h1 := HL.out k hk.2.2; have h2 := GX.out; show k ≠ gx; omega) _)), by repeat (first | (with_reducible exact HB.out) | (with_reducible refine Kp.setNew ?_ GX.out _))⟩ ?_
      clear BX BG BM HO HB q0 q1 q2 q3 q4 q5 f0 f1 f2 f3 f4 f5 hx0 hx1 hx2 hx3 hx4 hx5
      rintro V ⟨b1_, b2_, b3_, b4_, b5_⟩
      have BX := Aside0.mk b1_
      have BG := Aside0.mk b2_
      have BM := Aside0.mk b3_
      have HO := Aside0.mk b4_
      have HB := Aside0.mk b5_
      clear b1_ b2_ b3_ b4_ b5_
      refine start_ (n := 6) (S := fun w' => w'.cell? ⟨gx, 0, none⟩ = some (.int .i64 x.f0) ∧ w'.cell? ⟨gx, 1, none⟩ = some (.string x.f1) ∧ w'.cell? ⟨gx, 2, none⟩ = some (.int .i64 x.f2) ∧ w'.cell? ⟨gx, 3, none⟩ = some (.int .i64 x.f3) ∧ w'.cell? ⟨gx, 4, none⟩ = some (.int .i64 x.f4) ∧ w'.cell? ⟨gx, 5, none⟩ = some (.int .i64 x.f5) ∧ w'.cell? ⟨g, 1, none⟩ = some (.map (some gm)) ∧ w'.heap[gm]? = some (.map es clock)) (ds := [5]) #[false, false, false, false, false, false] (by kernel_rfl) rfl rfl ⟨(blk_cell BX.out 0).trans rfl, (blk_cell BX.out 1).trans rfl, (blk_cell BX.out 2).trans rfl, (blk_cell BX.out 3).trans rfl, (blk_cell BX.out 4).trans rfl, (blk_cell BX.out 5).trans rfl, (blk_cell BG.out 1).trans rfl, BM.out⟩ (fun hHeld => ?_)
      refine pure_ (i := 0) (N := some 17) (v := ?_) (a' := ?_) #[true, false, false, false, false, false] rfl rfl (by kernel_rfl) (fun _ _ _ h => h) (Or.inl ⟨by rfl, ?_⟩) ?_ ?_
      rotate_left
      · intro w'
        go_simp
        with_reducible rfl
      rotate_left
      · simp only [Act.put, List.setIfInBounds_toArray, List.set_cons_zero, List.set_cons_succ, i64_w, i32_w]
        rfl
      refine pure_ (i := 1) (N := some 18) (v := ?_) (a' := ?_) #[true, true, false, false, false, false] rfl rfl (by kernel_rfl) (fun _ _ _ h => h) (Or.inl ⟨by rfl, ?_⟩) ?_ ?_
      rotate_left
      · intro w'
        go_simp
        with_reducible rfl
      rotate_left
      · simp only [Act.put, List.setIfInBounds_toArray, List.set_cons_zero, List.set_cons_succ, i64_w, i32_w]
        rfl
      refine pure_ (i := 2) (N := some 19) (v := ?_) (a' := ?_) #[true, true, true, false, false, false] rfl rfl (by kernel_rfl) (fun _ _ _ h => h) (Or.inl ⟨by rfl, ?_⟩) ?_ ?_
      rotate_left
      · intro w'
        go_simp
        with_reducible rfl
      rotate_left
      · simp only [Act.put, List.setIfInBounds_toArray, List.set_cons_zero, List.set_cons_succ, i64_w, i32_w]
        rfl
      refine take_ (i := 3) (N := some 20) (v := ?_) (a' := ?_) #[true, true, true, true, false, false] rfl rfl (by kernel_rfl) (fun _ _ _ h => h) (Or.inl ⟨by rfl, ?_⟩) hHeld ?_ ?_
      rotate_left
      · rintro w' ⟨s0, s1, s2, s3, s4, s5, s6, s7⟩
        go_simp
        with_reducible rfl
      rotate_left
      · simp only [Act.put, List.setIfInBounds_toArray, List.set_cons_zero, List.set_cons_succ, i64_w, i32_w]
        rfl
      refine take_ (i := 4) (N := some 21) (v := ?_) (a' := ?_) #[true, true, true, true, true, false] rfl rfl (by kernel_rfl) (fun _ _ _ h => h) (Or.inl ⟨by rfl, ?_⟩) hHeld ?_ ?_
      rotate_left
      · rintro w' ⟨s0, s1, s2, s3, s4, s5, s6, s7⟩
        go_simp
        with_reducible rfl
      rotate_left
      · simp only [Act.put, List.setIfInBounds_toArray, List.set_cons_zero, List.set_cons_succ, i64_w, i32_w]
        rfl
      refine last_ (i := 5) (N := none) #[true, true, true, true, true, true] rfl rfl (by kernel_rfl) (by decide) (fun K hK => ?_)
      obtain ⟨w4, hrun4, hown4, hturn4⟩ := World.ownsMap.drop (HF.out _ hHeld.2.2.2.2.2.2.2) ent_law Tryd.underlying99 (ent_key hok.out) 0
      unfold entV at hrun4
      refine val_ (w1 := w4) (.tuple #[]) (by rfl) rfl ?_ ?_
      · simp only [execOp]
        go_simp
      refine hK _ _ ?_
      refine done_ (by kernel_rfl) ?_
      have hg4 := hturn4.grown
      have hsz := Maps.size_del (World.ownsMap.tidy (HF.out _ hHeld.2.2.2.2.2.2.2) ent_law) (k := entK x)
      have hsn := (HF.out _ hHeld.2.2.2.2.2.2.2).size_le
      have hnot : x ∉ E.take j := fun h' => by
        obtain ⟨i, he⟩ := List.getElem?_of_mem h'
        have hi := (List.getElem?_eq_some_iff.1 he).1
        have h2 : E[i]? = some x := by rw [List.getElem?_take] at he; split at he <;> simp_all
        have h3 : i < j := by rw [List.length_take] at hi; omega
        have h4 := (List.getElem?_inj (by omega) hE.out).1 (h2.trans hxj.out.symm)
        omega
      have hhas : Maps.has D (entK x) = true := by
        obtain ⟨i, hi⟩ := fstI_mem (x := x) (L := L0 ++ E) (List.mem_append_right _ (List.mem_of_getElem? hxj.out))
        rw [((HD.out.2 x hok.out).2 hnot).1, hi]
        rfl
      rw [hhas, if_pos rfl] at hsz
      have hown5 := own_drop hown4 hsz hsn
      obtain ⟨es2, clock2, hbm, F2, hs2, hD2⟩ := hown5
      have n0_ := Aside0.mk (blk_grown (blk_drew BG.out) hg4 (fun e => hgm (Option.some.inj e).symm))
      have n2_ := Aside0.mk (Kd.R_step (Kd.R_drew HO.out) (fun k hk hlt => hg4.block k hlt (fun e => hk.2.1 (Option.some.inj e))))
      have n3_ := Aside0.mk (Kp.grown (Kp.drew HB.out) hg4 (fun k hk _ => by cases hk; exact hm0))
      have n4_ := Aside0.mk hbm
      have n5_ := Aside0.mk (HD.out.step hxj.out hok.out)
      have n6_ : Aside0 (∀ W : World, W.heap[gm]? = some (.map es2 clock2) → W.ownsMap Tryd.prog 50 (plainElem Tryd.prog 3) gm ((L0 ++ E).length - (j + 1)) (D.del (entK x))) := ⟨fun W h => ⟨es2, clock2, h, F2, by rw [Nat.sub_add_eq]; exact hs2, hD2⟩⟩
      clear BG BX BM HO HB hHeld hg4 hturn4 hbm F2 hs2 hD2 hown4 hsz hsn hhas hnot HF HD
      have e1 : wrap64 ((j : Int) + 1) = ((j + 1 : Nat) : Int) := by unfold wrap64; omega
      replace e1 := Aside0.mk e1
      try go_wp2
      go_roundg (gk - 1)
      case measure => have := hj.out; omega
      case rel => exact ⟨j + 1, _, es2, clock2, by first | rfl | (simp; done) | (rw [← e1.out]), ⟨by have := hj.out; omega⟩, n5_, n6_, n4_, n0_, n2_, n3_⟩
    · obtain rfl : j = E.length := by have := hj.out; omega
      have hltb : decide ((E.length : Int) < (E.length : Int)) = false := decide_eq_false (by omega)
      have hcg : wr.cell? ⟨g, 0, none⟩ = some (.slice (some ⟨ga, 0, none⟩) (L0.length + E.length) co) := (blk_cell BG.out 0).trans (by rw [← hlen.out]; rfl)
      have hfg := blk_frozen BG.out 0
      have hsu := fun w => slice_upto w ga L0.length (L0.length + E.length) co (by omega) (by omega)
      go_wp2
      go_end0
      refine ⟨F, by first | rfl | simp, ?_, ?_⟩
      · have HD2 := HD.out
        rw [List.take_length] at HD2
        have BG2 := blk_put BG.out 0 (.slice (some ⟨ga, 0, none⟩) L0.length co) (cs' := #[.slice (some ⟨ga, 0, none⟩) L0.length co, .map (some gm)]) rfl
        refine ⟨gm, some ⟨ga, 0, none⟩, co, D, es, clock, ⟨hg0, hm0, hgm⟩, HD2.fst (fun y hy => (hx.out y hy).1), fun W h => ?_, BG2, set_far BM.out hgm, ?_, fun k hk => Nat.lt_of_lt_of_le (HL.out k hk) (Kp.setCell HB.out (p := ⟨g, 0, none⟩) hg0 _).size⟩
        · have := HF.out W h
          rw [hlen.out, Nat.add_sub_cancel] at this
          exact this
        · have h3 := Kd.R_take (m := L0.length) (Kd.R_far (p := ⟨g, 0, none⟩) HO.out (fun k hk => hk.1) (.slice (some ⟨ga, 0, none⟩) L0.length co)) (by rw [hlen.out]; omega)
          rw [List.take_left'] at h3
          · exact h3
          · rfl
      · exact ⟨fun k hk => .inl hk, Kp.setCell HB.out hg0 _⟩
end Go.Proofs.YtldejfkplnejjaaDoor.P
