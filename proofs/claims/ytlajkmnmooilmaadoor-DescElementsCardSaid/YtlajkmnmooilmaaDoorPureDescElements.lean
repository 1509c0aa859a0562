/- DescElements, plainly. -/
import Derived.Test.YtlajkmnmooilmaaDoorPure2c
import Derived.Test.YtlajkmnmooilmaaDoorPure2e
import Derived.Test.YtlajkmnmooilmaaDoorPureKnown2
import Derived.Test.YtlajkmnmooilmaaDoorP9
namespace Go.Proofs.YtlajkmnmooilmaaDoor.Pure
open Go.RowKit Go.Proofs.YtlajkmnmooilmaaDoor.P Go.Proofs.YtlajkmnmooilmaaDoorW.PrintWords
theorem DescElements (a0 : S26) (h : ok26 a0) : ∃ k, keystonelaw2_DescElements.f k a0.f0 a0.f1 = some true := by
  refine Ev.rounds ?_
  have hs : a0.f1.size ≤ 140737488355328 := by have := h.2; omega
  generalize a0.f0 = d
  generalize a0.f1 = s at hs
  unfold keystonelaw2_DescElements.f
  refine Ev.bind known2_t (Ev_pos rfl (Ev.bind (dtext_f d s hs) (Ev.bind (del_f d s hs) ?_)))
  unfold textS elS
  by_cases hc : chk d s = 0
  · rw [if_pos hc, if_pos hc]
    obtain ⟨h0, h1, h2, h3⟩ := chk_0 hc
    have hl := LL_length s
    refine Ev_pos rfl ?_
    by_cases hd : d = 0
    · rw [if_pos hd]
      exact Ev_pos hd (Ev_neg Bool.false_ne_true (Ev_const (by rw [toList_LL]; rfl)))
    · rw [if_neg hd, w64 (by omega) (by omega)]
      have hc' : chk (d - 1) s = 0 := by
        unfold chk at hc ⊢
        rw [if_neg (by omega)] at hc ⊢
        exact hc
      have hx : Ev (fun k => desc_TypeText.f k (d - 1) s) ((BA (textL (d - 1).toNat (LL s)), 0) : ByteArray × Int) := by
        have := dtext_f (d - 1) s hs
        unfold textS at this
        rwa [if_pos hc'] at this
      have ho : objS d s = true := by unfold objS numS; rw [if_pos hc]; simp [hd]
      have ht : textL d.toNat (LL s) = 91 :: textL (d - 1).toNat (LL s) := by
        unfold textL
        rw [show d.toNat = (d - 1).toNat + 1 by omega, List.replicate_succ]; rfl
      have hb : (textL (d - 1).toNat (LL s)).length ≤ 1000 := by
        unfold textL bodyL
        split <;> simp <;> omega
      refine Ev_neg hd (Ev.bind hx (Ev_pos rfl (Ev_pos rfl (Ev_pos (by rw [BA_size]; omega) (Ev_pos ?_ (Ev.bind (dobj_f d s hs) (Ev_pos ho (Ev_const (by simp)))))))))
      rw [show (⟨#[91]⟩ : ByteArray) = BA [91] from rfl, BA_append, ht]; rfl
  · rw [if_neg hc, if_neg hc]
    refine Ev_neg hc (Ev_neg Bool.false_ne_true (Ev_pos (by rw [toList_LL]; rfl) (Ev.bind (dcheck_f d s hs) (Ev_const (by simp)))))
end Go.Proofs.YtlajkmnmooilmaaDoor.Pure
