/- Plain helps for the printed functions: rounds, wraps, lists that are read. No program in sight. -/
import Derived.Test.YtldejfkplnejjaaDoorWMore
namespace Go.Proofs.YtldejfkplnejjaaDoor.Pure
open Go.RowKit Go.Proofs.YtldejfkplnejjaaDoorW.PrintWords

theorem w64 {n : Int} (h0 : -9223372036854775808 ≤ n) (h1 : n ≤ 9223372036854775807) : wrap64 n = n := by unfold wrap64; omega
theorem Ev_at {α : Type} {g : Nat → Option α} {r : α} (K : Nat) (h : ∀ m, g (m + K) = some r) : Ev g r :=
  ⟨K, fun k hk => by obtain ⟨m, rfl⟩ : ∃ m, k = m + K := ⟨k - K, by omega⟩; exact h m⟩
theorem Ev_const {α : Type} {o : Option α} {r : α} (h : o = some r) : Ev (fun _ => o) r := ⟨0, fun _ _ => h⟩
theorem Ev_pos {α : Type} {c : Prop} [Decidable c] {f g : Nat → Option α} {r : α} (hc : c) (h : Ev f r) : Ev (fun k => if c then f k else g k) r := by
  simpa only [if_pos hc] using h
theorem Ev_neg {α : Type} {c : Prop} [Decidable c] {f g : Nat → Option α} {r : α} (hc : ¬ c) (h : Ev g r) : Ev (fun k => if c then f k else g k) r := by
  simpa only [if_neg hc] using h
theorem Ev_ite {α : Type} {c : Prop} [Decidable c] {f g : Nat → Option α} {r : α} (h : c → Ev f r) (h' : ¬ c → Ev g r) : Ev (fun k => if c then f k else g k) r := by
  by_cases hc : c
  · exact Ev_pos hc (h hc)
  · exact Ev_neg hc (h' hc)
theorem Ev_some {α β : Type} {x : α} {f : Nat → α → Option β} {r : β} (h : Ev (fun n => f n x) r) : Ev (fun n => (some x).bind (f n)) r := h
theorem Ev_bindc {α β : Type} {o : Option α} {x : α} {f : Nat → α → Option β} {r : β} (ho : o = some x) (h : Ev (fun n => f n x) r) : Ev (fun n => o.bind (f n)) r := by
  subst ho; exact h
theorem Ev_ret {α β : Type} {g : Nat → Option α} {a : α} {f : α → Option β} {r : β} (h : Ev g a) (hf : f a = some r) : Ev (fun n => (g n).bind f) r := Ev.bind h (Ev_const hf)
theorem getD_at {α : Type} {l : List α} {d : α} {i : Int} {x : α} {j : Nat} (hi : i = j) (h : l[j]? = some x) : l.getD i.toNat d = x := by
  subst hi
  simp [List.getD, h]
theorem at_of {α : Type} {l : List α} {j : Nat} (h : j < l.length) : ∃ x, l[j]? = some x := ⟨l[j], List.getElem?_eq_getElem h⟩
theorem drop_at {α : Type} {l : List α} {j : Nat} {x : α} (h : l[j]? = some x) : l.drop j = x :: l.drop (j + 1) := by
  obtain ⟨hj, rfl⟩ := List.getElem?_eq_some_iff.1 h
  exact List.drop_eq_getElem_cons hj
theorem bytes_eq (a b : ByteArray) : a = b ↔ a.toList = b.toList := by
  constructor
  · rintro rfl; rfl
  · intro h
    rw [ByteArray.toList_eq, ByteArray.toList_eq] at h
    cases a; cases b; simpa using h
end Go.Proofs.YtldejfkplnejjaaDoor.Pure
