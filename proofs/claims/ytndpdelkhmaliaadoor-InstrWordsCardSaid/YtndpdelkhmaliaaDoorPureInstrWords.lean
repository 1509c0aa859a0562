/- InstrWords, plainly. -/
import Derived.Test.YtndpdelkhmaliaaDoorPure4c
import Derived.Test.YtndpdelkhmaliaaDoorPureKnown4
namespace Go.Proofs.YtndpdelkhmaliaaDoor.Pure
open Go.RowKit Go.Proofs.YtndpdelkhmaliaaDoor.P Go.Proofs.YtndpdelkhmaliaaDoorW.PrintWords
theorem words_each : ∀ n : Fin 46, keystonelaw4_InstrWords.f 60 (n.val : Int) = some true := by decide +kernel
theorem InstrWords (a0 : Int) (_ : (Lit.int .i64 a0).wf = true) : ∃ k, keystonelaw4_InstrWords.f k a0 = some true := by
  by_cases h : 0 ≤ a0 ∧ a0 ≤ 45
  · have := words_each ⟨a0.toNat, by omega⟩
    refine ⟨60, ?_⟩
    rwa [show ((⟨a0.toNat, by omega⟩ : Fin 46).val : Int) = a0 by show ((a0.toNat : Nat) : Int) = a0; omega] at this
  refine Ev.rounds ?_
  unfold keystonelaw4_InstrWords.f
  have e : nameS a0 = ⟨#[]⟩ := by unfold nameS; rw [if_neg (by omega)]
  have es : size a0 = 0 := by unfold size; rw [if_pos (by omega)]
  refine Ev.bind known_t (Ev_pos rfl (Ev_bindc (name_f a0) ?_))
  rw [e]
  have fin : Ev (fun k => keystonelaw4_InstrWords.j0 k a0 ⟨#[]⟩ true) true := by
    refine Ev.step (fun k => by rw [keystonelaw4_InstrWords.j0]) (Ev_pos rfl (Ev_pos (by rw [ByteArray.toList_eq]) (Ev.bind (size_f a0) (Ev_const ?_))))
    rw [es]; rfl
  refine Ev_ite (fun _ => fin) (fun _ => ?_)
  rw [decide_eq_true (by omega)]
  exact fin
end Go.Proofs.YtndpdelkhmaliaaDoor.Pure
