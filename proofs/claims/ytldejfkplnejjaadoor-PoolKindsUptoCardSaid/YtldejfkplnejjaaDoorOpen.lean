/- What a law's arguments read as is laid open as the print's kinds tell it: whole numbers, bools, strings, structs and slices of these, at any depth; beside it their sizes: what the form's own reach gives, and (second form) how much they hold in all. -/
import Derived.Test.YtldejfkplnejjaaDoorRows
import Derived.Test.YtldejfkplnejjaaDoorWMore
import Derived.ProofKit
import Derived.OpenShut
import Derived.ShutString
import Derived.ChangeOld
import Derived.Below
import Derived.SizedLaws
import Derived.LaidMore
import Derived.LaidHandle
import Derived.LaidLaws
import Derived.Deep.DeepHandedRow
namespace Go.Proofs.YtldejfkplnejjaaDoor.Open
open Go.RowKit Go.Proofs.YtldejfkplnejjaaDoorW.PrintWords Go.ChangeShapes
def Opens {α : Type} (P : Program) (T : TypeId) (d : Kd α) (Ok : α → Prop) (m : α → Nat) : Prop :=
  P.cellsOf T = d.sz ∧ ∀ (H : Type) (enc : TypeId × Value → H) (W : World) (fuel : Nat) (cs : List Value) (y : DataW H × List MemPlace),
    DataW.trod enc P W 0 (fun _ => true) true fuel T cs = some y → (∀ n ∈ y.1.weights P T, n ≤ reachBytes) → ∃ x : α, d.K W x cs ∧ Ok x ∧ m x ≤ Rows.uptoBulk y.1
theorem opens_int {P : Program} {T : TypeId} {k : IntKind} (hT : P.underlying T = some (.int k)) (hc : P.cellsOf T = 1) : Opens P T (Kd.int k) (fun x => (Lit.int k x).wf = true) (fun _ => 1) := by
  refine ⟨hc, fun H enc W fuel cs y h _ => ?_⟩
  obtain ⟨n, rfl, rfl, hn⟩ := DataW.trod_int hT h
  exact ⟨n, rfl, hn, by simp [Rows.uptoBulk]⟩
theorem opens_string {P : Program} {T : TypeId} (hT : P.underlying T = some .string) (hc : P.cellsOf T = 1) : Opens P T Kd.string (fun s => s.size ≤ 140737488351232) (fun s => s.size + 1) := by
  refine ⟨hc, fun H enc W fuel cs y h hw => ?_⟩
  obtain ⟨s, rfl, rfl, _⟩ := DataW.trod_string hT h
  have hl : s.data.toList.length = s.size := Array.length_toList
  have := hw s.data.toList.length (by simp [DataW.weights])
  exact ⟨s, rfl, by simp only [reachBytes] at this; omega, by simp only [Rows.uptoBulk]; omega⟩
def OpensF {α : Type} (P : Program) (fs : List Field) (o : Nat) (d : Kd α) (Ok : α → Prop) (m : α → Nat) : Prop :=
  ∀ (H : Type) (enc : TypeId × Value → H) (W : World) (fuel : Nat) (cs : List Value) (xs : List (DataW H × List MemPlace)),
    cs.length = o + d.sz → xs.length = fs.length →
    (∀ (i : Nat) (f : Field), fs[i]? = some f → DataW.trod enc P W 0 (fun _ => true) true fuel f.type ((cs.drop f.offset).take (P.cellsOf f.type)) = xs[i]?) →
    (∀ n ∈ DataW.weightsEach P (fs.map (·.type)) (xs.map (·.1)), n ≤ reachBytes) → ∃ x : α, d.K W x (cs.drop o) ∧ Ok x ∧ m x ≤ Rows.uptoBulkAll (xs.map (·.1))
theorem opensF_one {α : Type} {P : Program} {f : Field} {o : Nat} {d : Kd α} {Ok : α → Prop} {m : α → Nat} (h : Opens P f.type d Ok m) (ho : f.offset = o) : OpensF P [f] o d Ok m := by
  intro H enc W fuel cs xs hl hx hf hw
  match xs, hx with
  | [y], _ =>
    have h0 := hf 0 f rfl
    rw [ho, h.1, List.take_of_length_le (by rw [List.length_drop]; omega)] at h0
    obtain ⟨x, hK, hok, hm⟩ := h.2 H enc W fuel _ y h0 (fun n hn => hw n (by simp [DataW.weightsEach, hn]))
    exact ⟨x, hK, hok, by simp only [List.map_cons, List.map_nil, Rows.uptoBulkAll]; omega⟩
theorem opensF_cons {α β : Type} {P : Program} {f : Field} {fs : List Field} {o : Nat} {d : Kd α} {d' : Kd β} {Ok : α → Prop} {Ok' : β → Prop} {m : α → Nat} {m' : β → Nat} (h : Opens P f.type d Ok m) (ho : f.offset = o)
    (hr : OpensF P fs (o + d.sz) d' Ok' m') : OpensF P (f :: fs) o (Kd.pair d d') (fun x => Ok x.1 ∧ Ok' x.2) (fun x => m x.1 + m' x.2) := by
  intro H enc W fuel cs xs hl hx hf hw
  match xs, hx with
  | y :: ys, hx =>
    have h0 := hf 0 f rfl
    rw [ho, h.1] at h0
    obtain ⟨x, hK, hok, hm⟩ := h.2 H enc W fuel _ y h0 (fun n hn => hw n (by simp [DataW.weightsEach, hn]))
    obtain ⟨x', hK', hok', hm'⟩ := hr H enc W fuel cs ys (by rw [hl]; show o + (d.sz + d'.sz) = _; omega) (by simpa using hx) (fun i g hg => hf (i + 1) g (by simpa using hg)) (fun n hn => hw n (by simp [DataW.weightsEach, hn]))
    refine ⟨(x, x'), ⟨_, _, ?_, hK, hK'⟩, ⟨hok, hok'⟩, by simp only [List.map_cons, Rows.uptoBulkAll]; omega⟩
    rw [← List.drop_drop, List.take_append_drop]
theorem opens_struct {α β : Type} {P : Program} {T : TypeId} {fs : Array Field} {d : Kd α} {Ok : α → Prop} {m : α → Nat} (f : β → α) (g : α → β) (hfg : ∀ a, f (g a) = a) (hT : P.underlying T = some (.struct fs)) (hc : P.cellsOf T = d.sz)
    (h : OpensF P fs.toList 0 d Ok m) : Opens P T (Kd.iso d f) (fun x => Ok (f x)) (fun x => m (f x)) := by
  refine ⟨hc, fun H enc W fuel cs y hy hw => ?_⟩
  obtain ⟨xs, n, rfl, rfl, hl, hlen, hf⟩ := DataW.trod_struct hT hy
  obtain ⟨x, hK, hok, hm⟩ := h H enc W n cs xs (by rw [hl, hc]; omega) (by simpa using hlen) (fun i f hf' => hf i f (by simpa using hf')) (fun n hn => hw n (by simp only [DataW.weights, hT]; exact hn))
  refine ⟨g x, ?_, ?_, ?_⟩
  · show d.K W (f (g x)) cs
    rw [hfg]
    exact hK
  · show Ok (f (g x))
    rw [hfg]
    exact hok
  · show m (f (g x)) ≤ _
    rw [hfg]
    simp only [Rows.uptoBulk]
    omega
def sumOf {α : Type} (m : α → Nat) : List α → Nat
  | [] => 0
  | x :: l => m x + sumOf m l
theorem sumOf_mem {α : Type} {m : α → Nat} {x : α} : ∀ {l : List α}, x ∈ l → m x ≤ sumOf m l
  | y :: l, h => by
    simp only [sumOf]
    rcases List.mem_cons.1 h with rfl | h
    · omega
    · have := sumOf_mem (m := m) h; omega
theorem cells?_list {w : World} {base : Nat} {a : Addr} {n : Nat} {cs : List Value} (h : w.cells? base a n = some cs) : cs.length = n ∧ ∀ (i : Nat) (u : Value), cs[i]? = some u → w.cell? (a.add i) = some u := by
  obtain ⟨_, hl, hc⟩ := World.cells?_some h
  refine ⟨hl, fun i u hi => ?_⟩
  have hlt : i < n := by have := (List.getElem?_eq_some_iff.1 hi).1; omega
  rw [hc i hlt]
  exact hi
theorem add_mul (a : Addr) (i j : Nat) : (a.add i).add j = a.add (i + j) := by
  by_cases hi : i = 0 <;> by_cases hj : j = 0 <;> simp [Addr.add, hi, hj, Nat.add_assoc]
theorem listed {α H : Type} {d : Kd α} {Ok : α → Prop} {m : α → Nat} {W : World} {F : Nat → Option (List Value)} : ∀ (els : List (DataW H × List MemPlace)) (o : Nat),
    (∀ i y, els[i]? = some y → ∃ c x, F (o + i) = some c ∧ d.K W x c ∧ Ok x ∧ m x ≤ Rows.uptoBulk y.1) →
    ∃ xs : List α, xs.length = els.length ∧ (∀ x ∈ xs, Ok x) ∧ sumOf m xs ≤ Rows.uptoBulkAll (els.map (·.1)) ∧ ∀ j p, xs[j]? = some p → ∃ c, F (o + j) = some c ∧ d.K W p c
  | [], o, _ => ⟨[], rfl, (fun x h => by cases h), by simp [sumOf], (fun j p h => by simp at h)⟩
  | y :: els, o, h => by
    obtain ⟨c, x, hF, hK, hok, hm⟩ := h 0 y rfl
    obtain ⟨xs, h1, h2, h3, h4⟩ := listed els (o + 1) (fun i z hz => by
      have := h (i + 1) z (by simpa using hz)
      rwa [show o + 1 + i = o + (i + 1) by omega])
    refine ⟨x :: xs, by simp [h1], fun z hz => ?_, by simp only [List.map_cons, Rows.uptoBulkAll, sumOf]; omega, fun j p hp => ?_⟩
    · rcases List.mem_cons.1 hz with rfl | hz
      · exact hok
      · exact h2 z hz
    · cases j with
      | zero => simp only [List.getElem?_cons_zero, Option.some.injEq] at hp; subst hp; exact ⟨c, hF, hK⟩
      | succ j =>
        obtain ⟨c', hc', hK'⟩ := h4 j p (by simpa using hp)
        exact ⟨c', by rwa [show o + 1 + j = o + (j + 1) by omega] at hc', hK'⟩
theorem weightsAll_mem {H : Type} {P : Program} {e : TypeId} {n : Nat} : ∀ {l : List (DataW H)} {d : DataW H}, d ∈ l → n ∈ d.weights P e → n ∈ DataW.weightsAll P e l
  | x :: l, d, h, hn => by
    rw [DataW.weightsAll, List.mem_append]
    rcases List.mem_cons.1 h with rfl | h
    · exact .inl hn
    · exact .inr (weightsAll_mem h hn)
theorem opens_slice {α : Type} {P : Program} {T e : TypeId} {d : Kd α} {Ok : α → Prop} {m : α → Nat} {b : Nat} (hT : P.underlying T = some (.slice e)) (hc : P.cellsOf T = 1) (hb : P.bytesOf e = b) (he : Opens P e d Ok m) :
    Opens P T (Kd.slice e d) (fun xs => (∀ x ∈ xs, Ok x) ∧ xs.length ≤ maxLen ∧ xs.length * b ≤ 140737488351232) (fun xs => sumOf m xs + 1) := by
  subst hb
  refine ⟨hc, fun H enc W fuel cs y h hw => ?_⟩
  rcases DataW.trod_slice hT h with ⟨rfl, rfl⟩ | ⟨a, len, cap, els, rest, n, rfl, rfl, rfl, _, hl, hcap, hlen, hel, _, _⟩
  · refine ⟨[], ⟨none, 0, rfl, Nat.le_refl _, rfl, by simp, (fun h => by simp at h)⟩, ⟨(fun x h => by cases h), by simp, by simp⟩, by simp [sumOf, Rows.uptoBulk]⟩
  · have hwt : ∀ z ∈ els, ∀ k ∈ z.1.weights P e, k ≤ reachBytes := fun z hz k hk => hw k (by
      simp only [DataW.weights, hT]
      exact List.mem_cons_of_mem _ (List.mem_append_left _ (weightsAll_mem (List.mem_map_of_mem hz) hk)))
    have hsz : len * P.bytesOf e ≤ 140737488351232 := by
      have := hw ((els.map (·.1)).length * P.bytesOf e + (rest.map (·.1)).length * P.bytesOf e) (by simp only [DataW.weights, hT]; rw [← Nat.add_mul]; exact List.mem_cons_self)
      simp only [List.length_map, hlen, reachBytes] at this
      omega
    obtain ⟨xs, h1, h2, h3, h4⟩ := listed (d := d) (Ok := Ok) (m := m) (W := W) (F := fun i => W.cells? 0 (a.add (i * P.cellsOf e)) (P.cellsOf e)) els 0 (fun i z hz => by
      have hi : i < len := by have := (List.getElem?_eq_some_iff.1 hz).1; omega
      have := hel i hi
      rw [hz, Option.bind_eq_some_iff] at this
      obtain ⟨c, hcs, hz'⟩ := this
      obtain ⟨x, hK, hok, hm⟩ := he.2 H enc W n c z hz' (hwt z (List.mem_of_getElem? hz))
      exact ⟨c, x, by rw [Nat.zero_add]; exact hcs, hK, hok, hm⟩)
    refine ⟨xs, ⟨some a, cap, by rw [h1, hlen], by omega, rfl, by rw [h1, hlen]; simp only [maxLen] at hcap; omega, fun _ => ⟨a, rfl, fun j p hp => ?_⟩⟩, ⟨h2, by rw [h1, hlen]; omega, by rw [h1, hlen]; exact hsz⟩, by simp only [Rows.uptoBulk]; omega⟩
    obtain ⟨c, hcs, hK⟩ := h4 j p hp
    rw [Nat.zero_add] at hcs
    obtain ⟨hcl, hcc⟩ := cells?_list hcs
    refine ⟨c, by rw [hcl, he.1], hK, fun i u hu => ?_⟩
    have := hcc i u hu
    rw [add_mul, he.1] at this
    exact this
theorem open_of {α H : Type} {P : Program} {T : TypeId} {d : Kd α} {Ok : α → Prop} {m : α → Nat} (h : Opens P T d Ok m) {enc : TypeId × Value → H} {W : World} {v : Value} {y : DataW H} {p : List MemPlace}
    (hv : DataW.Trod enc P W 0 (fun _ => true) true T v y p) (hw : ∀ n ∈ y.weights P T, n ≤ reachBytes) : ∃ x : α, d.K W x v.cells.toList ∧ Ok x ∧ m x ≤ Rows.uptoBulk y := by
  obtain ⟨fuel, hf⟩ := hv
  exact h.2 H enc W fuel _ (y, p) hf hw
theorem weights_at {H : Type} {P : Program} {n : Nat} : ∀ {ts : List TypeId} {ds : List (DataW H)} {j : Nat} {t : TypeId} {d : DataW H}, ts[j]? = some t → ds[j]? = some d → n ∈ d.weights P t → n ∈ DataW.weightsEach P ts ds
  | t' :: ts, d' :: ds, 0, t, d, ht, hd, hn => by
    simp only [List.getElem?_cons_zero, Option.some.injEq] at ht hd
    subst ht; subst hd
    simp [DataW.weightsEach, hn]
  | t' :: ts, d' :: ds, j + 1, t, d, ht, hd, hn => by
    simp only [DataW.weightsEach, List.mem_append]
    exact .inr (weights_at (ts := ts) (ds := ds) (j := j) (by simpa using ht) (by simpa using hd) hn)
end Go.Proofs.YtldejfkplnejjaaDoor.Open
