/- Shorter spellings for the printed texts, second part: lemmas whose proofs are searched for where they stand. -/
import Derived.Test.YtldejfkplnejjaaDoorP0
import Derived.Test.YtldejfkplnejjaaDoorShort
import Derived.Test.YtldejfkplnejjaaDoorWTab
import Derived.Test.YtldejfkplnejjaaDoorWMore
namespace Go.Proofs.YtldejfkplnejjaaDoor.P
open Go.RowKit Go.Proofs.YtldejfkplnejjaaDoorW.PrintWords Go.Proofs.YtldejfkplnejjaaDoorW.PrintLast Go.Proofs.YtldejfkplnejjaaDoorW.PrintMore
set_option linter.unusedVariables false
theorem A_ {p : Prop} (h : p := by first | (with_reducible assumption) | assumption) : p := h
theorem E_ {a b : Ending} (h : a = b := by first | rfl | (simp [errW_none, errW_some] <;> rfl) | (simp [*, errW_none, errW_some] <;> rfl)) : a = b := h
theorem blk_put' {w : World} {g : Nat} {t : TypeId} {cs cs' : Array Value} {i : Nat} {u : Value} (h : w.heap[g]? = some (.cells cs t (0, 0))) (e : cs.setIfInBounds i u = cs') : (w.setCell ⟨g, i, none⟩ u).heap[g]? = some (.cells cs' t (0, 0)) := blk_put h i u e
theorem P_ {W : World} {g : Nat} {o : Obj} (h : W.heap[g]? = some o := by repeat (first | (with_reducible exact Aside0.out (by with_reducible assumption)) | (with_reducible refine blk_drewN ?_ _) | (with_reducible refine blk_drew ?_) | (with_reducible refine blk_alloc ?_ _) | (with_reducible apply blk_put') | (with_reducible apply blk_far) | (with_reducible exact Aside0.out (by assumption)) | rfl | exact Aside0.out (by assumption))) : W.heap[g]? = some o := h
theorem Q_ {α : Type} {d : Kd α} {e base : Nat} {ok : Nat → Prop} {v : Value} {xs : List α} {w W : World} (h : d.R e w base ok v xs) (hb : Below w.heap.size w W := by repeat (first | (with_reducible exact Below.refl _ _) | (with_reducible apply below_alloc) | (with_reducible apply pw_below_drewN) | (with_reducible apply below_drew1))) : d.R e W base ok v xs := Kd.R_below h hb
theorem Y_ {α : Type} {d : Kd α} {A : Option Addr} {n : Nat} {xs : List α} {w W : World} (h : d.C w A n xs) (hb : Below w.heap.size w W := by repeat (first | (with_reducible exact Below.refl _ _) | (with_reducible apply below_alloc) | (with_reducible apply pw_below_drewN) | (with_reducible apply below_drew1))) : d.C W A n xs := Kd.C_below h hb
theorem s_ {w W : World} {g : Nat} (hg : g = W.heap.size) (h : Below w.heap.size w W := by exact B_) : w.heap.size ≤ g := hg ▸ h.size
theorem x_ {W : World} {g g' : Nat} {o : Obj} (hg : g' = W.heap.size) (h : W.heap[g]? = some o) : g ≠ g' := by rw [hg]; exact Nat.ne_of_lt (blk_lt h)
theorem h_ {w W : World} {a : Addr} {v : Value} (HB : Aside0 (Below w.heap.size w W)) (h : w.cell? a = some v) : W.cell? a = some v := (HB.out.cell (World.block_lt_of_cell? w _ h)).trans h
theorem F_ {w : World} {a : Addr} {v : Value} {g : Nat} (hw : w.cell? a = some v) (h : Aside0 (w.heap.size ≤ g)) : a.block ≠ g := Nat.ne_of_lt (Nat.lt_of_lt_of_le (World.block_lt_of_cell? _ _ hw) h.out)
theorem F2_ {w : World} {a : Addr} {v : Value} {g : Nat} (h : Aside0 (w.heap.size ≤ g)) (hw : w.cell? a = some v) : a.block ≠ g := F_ hw h
theorem kf_ {W : World} {p a : Addr} {u v : Value} (h : W.cell? a = some v) (ne : a.block ≠ p.block := by first | exact Aside0.out (by assumption) | exact F2_ (by assumption) (by assumption)) : (W.setCell p u).cell? a = some v := (cell_far ne u).trans h
theorem S_ {A B : Prop} (h : A) (k : A → B := by repeat' (first | refine And.imp ?_ ?_ | (intro h_; repeat (first | (with_reducible exact h_) | (with_reducible refine kf_ ?_))))) : B := k h
section
variable {P : Program} {ops : Array Oper} {Q : Exit → Act → World → Prop} {rest : List Oper} {o oi : Oper} {a : Act} {W : World}
theorem gt_ (f : FuncId) {ax : Array Operand} {ts : Array TypeId} (h : wpList P ops Q (o :: rest) a W) (_ho : o.op = .call { callee := .value (.func f), args := ax, argTypes := ts } := by with_reducible rfl) : wpList P ops Q (o :: rest) a W := h
theorem gc_ (N : Tmp) {f : FuncId} {fn : Func} (hf : P.funcs[f]? = some fn) (args : Array Value) (h : Calls P f args W fun e w' => ∃ v, e = .returned v ∧ wpList P ops Q rest (a.put (some N) v) w') {ax : Array Operand} {ts : Array TypeId} (hd : oi.dst = some N := by rfl) (hg : oi.guard = none := by rfl) (hname : (fn.name == "runtime.NumGoroutine") = false := by kernel_rfl) (hb : fn.body.isSome = true := by rfl)
    (hop : oi.op = .call { callee := .value (.func f), args := ax, argTypes := ts } := by rfl) (hargs : ax.map a.eval = args := by (try simp only [List.map_toArray, List.map_cons, List.map_nil]); first | done | rfl | (simp only [List.length_drop, List.length_take]; rfl)) : wpList P ops Q (oi :: rest) a W := goesL_ (some N) hd hg hf hname hb args hop hargs h
theorem d_ (N : Tmp) (h : wpList P ops Q (o :: rest) a W) (_hN : o.dst = some N := by with_reducible rfl) : wpList P ops Q (o :: rest) a W := h
theorem X_ (N : Tmp) (cs : Array Value) (t : TypeId) (h : ∀ g, g = W.heap.size → ∀ w1, w1.heap[g]? = some (.cells cs t (0, 0)) → Below W.heap.size W w1 → wpList P ops Q rest (a.put o.dst (.pointer (some ⟨g, 0, none⟩))) w1) (hd : o.dst = some N := by rfl) (hg : o.guard = none := by rfl)
    (hr : (execOp a.eval o).run P W = .ok (.value (.pointer (some ⟨W.heap.size, 0, none⟩))) (W.alloc (.cells cs t (0, 0))) := by first | (go_simp; done) | (go_simp; rfl)) : wpList P ops Q (o :: rest) a W := box_event hg hd hr h
end
section
variable {P : Program} {ops : Array Oper} {Q : Exit → Act → World → Prop} {md : Region.Mode} {S : World → Prop} {ds : List Nat}
def bb (n m : Nat) : Array Bool := ((List.range n).map m.testBit).toArray
theorem u_ (i : Nat) (n : Tmp) (l' : Array Bool) {oi : Oper} {v : Value} {fuel : Nat} {l : Array Bool} {a a' : Act} {w : World} (h : wpAnyLast P md ops Q S ds fuel l' a' w) (hi : ops[i]? = some oi := by rfl) (hN : oi.dst = some n := by rfl) (hc : anyB md ops l l' i = true := by first | exact any_of HT_.out (by kernel_rfl) | kernel_rfl)
    (hQ : ∀ c a w, Q (.panic c) (a.put oi.dst v) w → Q (.panic c) a w := by exact fun _ _ _ h => h) (hy : Yields P ops oi v a := by refine Or.inl ⟨by rfl, ?_⟩; intro w'; go_simp; with_reducible rfl) (ha : a.put (some n) v = a' := by simp only [Act.put, List.setIfInBounds_toArray, List.set_cons_zero, List.set_cons_succ, i64_w, i32_w]; rfl) : wpAnyLast P md ops Q S ds (fuel + 1) l a w := pure_ l' hi hN hc hQ hy ha h
theorem t_ (i : Nat) (n : Tmp) (l' : Array Bool) {oi : Oper} {v : Value} {fuel : Nat} {l : Array Bool} {a a' : Act} {w : World} (h : wpAnyLast P md ops Q S ds fuel l' a' w) (hi : ops[i]? = some oi := by rfl) (hN : oi.dst = some n := by rfl) (hc : takeB md ops ds l l' i = true := by first | exact take_ofW HT_.out HW_.out (by kernel_rfl) | kernel_rfl)
    (hQ : ∀ c a w, Q (.panic c) (a.put oi.dst v) w → Q (.panic c) a w := by exact fun _ _ _ h => h) (hy : YieldsIf P ops S oi v a := by refine Or.inl ⟨by rfl, ?_⟩; intro w' hs_; repeat (obtain ⟨_, hs_⟩ := hs_); go_simp; with_reducible rfl) (hS : S w := by exact hHeld) (ha : a.put (some n) v = a' := by simp only [Act.put, List.setIfInBounds_toArray, List.set_cons_zero, List.set_cons_succ, i64_w, i32_w]; rfl) : wpAnyLast P md ops Q S ds (fuel + 1) l a w := take_ l' hi hN hc hQ hy hS ha h
end
theorem bs_ {w W w2 : World} (hb : Below W.heap.size W w2) (h : Below w.heap.size w W := by exact B_) : Aside0 (Below w.heap.size w w2) := ⟨below_step h hb⟩
theorem kb_ {w W w2 : World} {g : Nat} {o : Obj} (h : Aside0 (w.heap[g]? = some o)) (hb : Below W.heap.size W w2) (k : Below w.heap.size w W := by repeat (first | (with_reducible exact Below.refl _ _) | (with_reducible apply below_alloc) | (with_reducible apply pw_below_drewN) | (with_reducible apply below_drew1))) : Aside0 (w2.heap[g]? = some o) := ⟨blk_below (blk_below h.out k) hb⟩
theorem xx_ {w W : World} {g g' : Nat} {o : Obj} (hg : g' = W.heap.size) (h : Aside0 (w.heap[g]? = some o)) (k : Below w.heap.size w W := by repeat (first | (with_reducible exact Below.refl _ _) | (with_reducible apply below_alloc) | (with_reducible apply pw_below_drewN) | (with_reducible apply below_drew1))) : g ≠ g' := x_ hg (blk_below h.out k)
theorem rb_ {α : Type} {d : Kd α} {e base : Nat} {ok : Nat → Prop} {v : Value} {xs : List α} {w W w2 : World} (h : Aside0 (d.R e w base ok v xs)) (hb : Below W.heap.size W w2) (k : Below w.heap.size w W := by repeat (first | (with_reducible exact Below.refl _ _) | (with_reducible apply below_alloc) | (with_reducible apply pw_below_drewN) | (with_reducible apply below_drew1))) : Aside0 (d.R e w2 base ok v xs) := ⟨Kd.R_below (Kd.R_below h.out k) hb⟩
section
variable {P : Program} {ops : Array Oper} {Q : Exit → Act → World → Prop} {rest : List Oper} {oi : Oper} {a : Act} {W : World}
theorem gd_ (N : Tmp) {f : FuncId} {fn : Func} (hf : P.funcs[f]? = some fn) {args : Array Value} {v : Value} {R : World → Prop} (hc : Calls P f args W fun e w' => e = .returned v ∧ R w') (h : ∀ w', R w' → wpList P ops Q rest (a.put (some N) v) w') {ax : Array Operand} {ts : Array TypeId} (hd : oi.dst = some N := by rfl) (hg : oi.guard = none := by rfl) (hname : (fn.name == "runtime.NumGoroutine") = false := by kernel_rfl) (hb : fn.body.isSome = true := by rfl)
    (hop : oi.op = .call { callee := .value (.func f), args := ax, argTypes := ts } := by rfl) (hargs : ax.map a.eval = args := by (try simp only [List.map_toArray, List.map_cons, List.map_nil]); first | done | rfl | (simp only [List.length_drop, List.length_take]; rfl)) : wpList P ops Q (oi :: rest) a W :=
  goesL_ (some N) hd hg hf hname hb args hop hargs (hc.mono fun e w' ⟨he, hr⟩ => ⟨v, he, h w' hr⟩)
end
end Go.Proofs.YtldejfkplnejjaaDoor.P
