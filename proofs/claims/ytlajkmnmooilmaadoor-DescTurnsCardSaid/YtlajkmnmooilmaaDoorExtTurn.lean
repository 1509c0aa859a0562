/- What '[]byte(s)', 'b[i] = b[i] + x' and 'string(b)' come to, where the bytes stay the call's own. -/
import Derived.Test.YtlajkmnmooilmaaDoorP0
import Derived.Test.YtlajkmnmooilmaaDoorExt
import Derived.Lib.ConvBytes
import Derived.Laws.BytesArg
namespace Go.Proofs.YtlajkmnmooilmaaDoor.P
open Go.RowKit Go.Proofs.YtlajkmnmooilmaaDoorW.PrintWords Go.Proofs.YtlajkmnmooilmaaDoorW.PrintLast Go.Proofs.YtlajkmnmooilmaaDoorW.PrintMore
set_option linter.unusedVariables false
set_option linter.unusedSimpArgs false
def bytesN (s : ByteArray) : List Int := s.data.toList.map (fun b => (b.toNat : Int))
def turnY (s : ByteArray) (i x : Int) : Int := ((bytesN s)[i.toNat]?.getD 0 + x) % 256
def turnL (s : ByteArray) (i x : Int) : List Int := (bytesN s).set i.toNat (turnY s i x)
def turnB (s : ByteArray) (i x : Int) : ByteArray := strOfNums (turnL s i x)
theorem bytesN_length (s : ByteArray) : (bytesN s).length = s.size := by simp [bytesN]
theorem turnL_length (s : ByteArray) (i x : Int) : (turnL s i x).length = s.size := by simp [turnL, bytesN_length]
theorem turnB_size (s : ByteArray) (i x : Int) : (turnB s i x).size = s.size := by
  have h := turnL_length s i x
  unfold turnB
  generalize turnL s i x = l at h
  rw [← h]
  simp [strOfNums, ByteArray.size]
theorem obj_far {w : World} {B : Nat} {o : Obj} {p : Addr} (h : w.heap[B]? = some o) (hp : p.block ≠ B) (u : Value) : (w.setCell p u).heap[B]? = some o := (Below.heap_setCell w p u B (fun e => hp e.symm)).trans h
theorem turn_below (w : World) (e : TypeId) (s : ByteArray) : Below w.heap.size w (Lib.bytesWorld w e s) :=
  ⟨rfl, rfl, rfl, by rw [Lib.bytesWorld_size]; omega, fun k hk => Lib.bytesWorld_at_old w e s k hk⟩
theorem turn_reads {W : World} {g n : Nat} {cs : Array Value} {t : TypeId} {m : Nat × Nat} {xs : List Int} (h : W.heap[g]? = some (.cells cs t m)) (hx : xs.length = n) (hn : n ≤ 9223372036854775807) (hc : ∀ j, j < n → cs[j]? = some (.int .u8 (xs.getD j 0))) : ReadsInt W .u8 (some ⟨g, 0, none⟩) n xs := by
  refine ⟨hx, hn, fun _ => ⟨_, rfl, fun j hj => ?_⟩⟩
  have := cell_of_row W g j cs t m h
  rw [hc j hj] at this
  have e : (⟨g, 0, none⟩ : Addr).add j = ⟨g, j, none⟩ := by
    by_cases hj0 : j = 0 <;> simp [Addr.add, hj0]
  rw [e]
  exact this
/-- What the cells of the new row hold. -/
def turnC (s : ByteArray) (cs : Array Value) : Prop := s.size ≤ cs.size ∧ ∀ j, j < s.size → cs[j]? = some (.int .u8 ((bytesN s).getD j 0))
theorem turn_event {ops : Array Oper} {rest : List Oper} {o : Oper} {a : Act} {Q : Exit → Act → World → Prop} {W : World} {s : ByteArray} {N : Tmp} (hgd : o.guard = none) (_hd : o.dst = some N) (x : Operand) (hop : o.op = Op.convert 9 58 x) (hx : a.eval x = .string s)
    (h : ∀ g, g = W.heap.size → ∀ (cap : Nat) (w1 : World) (cells : Array Value), w1.heap[g]? = some (.cells cells 5 (cells.size, cells.size + 1)) → turnC s cells → Below W.heap.size W w1 → wpList Tryd.prog ops Q rest (a.put o.dst (.slice (some ⟨g, 0, none⟩) s.size cap)) w1) : wpList Tryd.prog ops Q (o :: rest) a W := by
  refine Kd.event_run (v := .slice (some ⟨W.heap.size, 0, none⟩) s.size (grownCap W s.size 0 5)) (w1 := Lib.bytesWorld W 5 s) hgd ?_ (h _ rfl _ _ _ (Lib.bytesWorld_at_new W 5 s) ⟨?_, fun j hj => ?_⟩ (turn_below W 5 s))
  · simp [execOp, hop, hx, Lib.run_convert_string_bytes W 9 58 5 s Tryd.underlying9 Tryd.underlying58 Tryd.underlying5, Result.andThen]
  · simp [Lib.bytesCells]
  · simp [Lib.bytesCells, Array.getElem?_append, bytesN, List.getD, hj]
theorem turn_cell {W : World} {g : Nat} {s : ByteArray} {cs : Array Value} {m : Nat × Nat} (h : W.heap[g]? = some (.cells cs 5 m)) (hc : turnC s cs) {i : Int} (h0 : 0 ≤ i) (h1 : i < s.size) : W.cell? ⟨g, i.toNat, none⟩ = some (.int .u8 ((bytesN s).getD i.toNat 0)) :=
  (cell_of_row W g i.toNat cs 5 m h).trans (hc.2 _ (by omega))
theorem turn_frozen {W : World} {g : Nat} {s : ByteArray} {cs : Array Value} (h : W.heap[g]? = some (.cells cs 5 (cs.size, cs.size + 1))) (hc : turnC s cs) {i : Int} (h0 : 0 ≤ i) (h1 : i < s.size) : W.frozen? ⟨g, i.toNat, none⟩ = false := by
  have := hc.1
  simp [World.frozen?, h]
  omega
theorem turn_put {W : World} {g : Nat} {s : ByteArray} {cs : Array Value} {m : Nat × Nat} (h : W.heap[g]? = some (.cells cs 5 m)) (hc : turnC s cs) {i : Int} (x : Int) (h0 : 0 ≤ i) (h1 : i < s.size) (hs : s.size ≤ 9223372036854775807) :
    ∃ o, (W.setCell ⟨g, i.toNat, none⟩ (.int .u8 (turnY s i x))).heap[g]? = some o ∧ ∀ V : World, V.heap[g]? = some o → ReadsInt V .u8 (some ⟨g, 0, none⟩) s.size (turnL s i x) := by
  refine ⟨.cells (cs.setIfInBounds i.toNat (.int .u8 (turnY s i x))) 5 m, by simp [World.setCell, Array.getElem?_modify, h], fun V hV => turn_reads hV (turnL_length s i x) hs fun j hj => ?_⟩
  have hl := bytesN_length s
  have h2 := hc.1
  rw [Array.getElem?_setIfInBounds]
  by_cases e : i.toNat = j
  · subst e
    rw [if_pos rfl, if_pos (by omega)]
    simp [turnL, List.getD, List.getElem?_set, hl, hj]
  · rw [if_neg e, hc.2 j hj]
    simp [turnL, List.getD, List.getElem?_set, e]
theorem turn_string {w : World} {s : ByteArray} {A : Option Addr} {n c : Nat} {i x : Int} (h : ReadsInt w .u8 A n (turnL s i x)) : (convert 58 9 (.slice A n c)).run Tryd.prog w = .ok (.string (turnB s i x)) w := by
  have hn : (turnL s i x).length = n := h.1
  unfold turnB
  generalize turnL s i x = xs at *
  rcases A with _ | ad
  · have h0 : n = 0 := by
      rcases Nat.eq_zero_or_pos n with h0 | h0
      · exact h0
      · obtain ⟨ad, h', _⟩ := h.2.2 h0
        cases h'
    subst h0
    obtain rfl : xs = [] := List.eq_nil_of_length_eq_zero hn
    exact run_convert_bytes_nil w 58 5 Tryd.underlying58 Tryd.underlying5 0 c 9 Tryd.underlying9
  · have hl : (loadCells ad n).run Tryd.prog w = .ok (xs.map (Value.int .u8)).toArray w := by
      have := run_loadCells_list (P := Tryd.prog) w ad (xs.map (Value.int .u8)) (fun j v hj => by
        have hjl : j < xs.length := by
          rcases Nat.lt_or_ge j xs.length with h' | h'
          · exact h'
          · rw [List.getElem?_eq_none (by rw [List.length_map]; exact h')] at hj
            cases hj
        obtain ⟨ad', he', hc⟩ := h.2.2 (by omega)
        injection he' with he'
        subst he'
        rw [hc j (by omega)]
        rw [List.getElem?_map, List.getElem?_eq_getElem hjl] at hj
        simp at hj
        subst hj
        simp [List.getD_eq_getElem?_getD, List.getElem?_eq_getElem hjl])
      simpa [hn] using this
    rw [run_convert_bytes_string w 58 9 5 _ n c Tryd.underlying58 Tryd.underlying5 Tryd.underlying9, run_bytesToString w ad n c xs hl, foldl_push_bytes]
    simp [strOfNums, ByteArray.empty, ByteArray.emptyWithCapacity]
    rfl
end Go.Proofs.YtlajkmnmooilmaaDoor.P
