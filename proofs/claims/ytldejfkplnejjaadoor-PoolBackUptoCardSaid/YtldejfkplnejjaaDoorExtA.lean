/- One builder in a law's loop. -/
import Derived.Test.YtldejfkplnejjaaDoorExtL0
namespace Go.Proofs.YtldejfkplnejjaaDoor.P
open Go.Maps Go.WideMaps Go.MapKept
open Go.RowKit Go.Proofs.YtldejfkplnejjaaDoorW.PrintWords Go.Proofs.YtldejfkplnejjaaDoorW.PrintLast Go.Proofs.YtldejfkplnejjaaDoorW.PrintMore
set_option linter.unusedVariables false
set_option linter.unusedSimpArgs false
def AI (W0 w : World) (F : Nat → Prop) (g : Nat) (L : List S50) : Prop := PB w F g L ∧ L.length ≤ 4096 ∧ (∀ k, F k → W0.heap.size ≤ k) ∧ Below W0.heap.size W0 w
theorem AI_below {W0 w w1 : World} {F : Nat → Prop} {g : Nat} {L : List S50} (h : AI W0 w F g L) (hb : Below w.heap.size w w1) : AI W0 w1 F g L := ⟨PB_below h.1 hb, h.2.1, h.2.2.1, below_then h.2.2.2 h.2.2.2.size hb⟩
theorem AI_grown {W0 w w1 : World} {F : Nat → Prop} {g : Nat} {L : List S50} {row : Option Nat} (h : AI W0 w F g L) (hg : w.grownBy w1 row) (hd : ∀ k, row = some k → ¬ F k ∧ W0.heap.size ≤ k) : AI W0 w1 F g L :=
  have hk : Kp (fun k => row = some k) w w1 := Kp.grown (Kp.refl _ _) hg (fun k e _ => e)
  ⟨PB_apart h.1 hk (fun k hf e => (hd k e).1 hf), h.2.1, h.2.2.1, below_trans h.2.2.2 (hk.below (fun k e => (hd k e).2) h.2.2.2.size)⟩
theorem AI_again {k : Nat} {x : S57} {v : CW} (ok : CallOk k x v) {Ax : Option Addr} {cx : Nat} (hcx : x.f5.f0.length ≤ cx) {W0 w : World} {F : Nat → Prop} {g : Nat} {L : List S50} (hCx : Kd.C k34 W0 Ax x.f5.f0.length x.f5.f0) (h : AI W0 w F g L) :
    Calls Tryd.prog 30 #[.pointer (some ⟨g, 0, none⟩), .agg #[.int .i64 x.f0, .int .i64 x.f1, .string x.f2, .string x.f3, .int .i64 x.f4.f0, .string x.f4.f1, .slice Ax x.f5.f0.length cx, .bool x.f5.f1, .int .i64 x.f5.f2.f0, .string x.f5.f2.f1]] w fun e_ w' => ∃ F', e_ = .returned (.tuple #[.int .i64 (agI x v L), .int .i64 (agE x v L)]) ∧ AI W0 w' F' g (agL x v L) ∧ Stp F w F' w' := by
  refine (again.frame k x v ok Ax cx hcx L h.2.1 F g W0 w hCx h.2.2.2 h.1).mono ?_
  rintro e w' ⟨F', rfl, hp, hs⟩
  exact ⟨F', rfl, ⟨hp, agL_len x v h.2.1, hs.low h.2.2.1 h.2.2.2.size, below_trans h.2.2.2 (hs.kp.below h.2.2.1 h.2.2.2.size)⟩, hs⟩
theorem AI_pool {W0 w : World} {F : Nat → Prop} {g : Nat} {L : List S50} (h : AI W0 w F g L) :
    Calls Tryd.prog 29 #[.pointer (some ⟨g, 0, none⟩)] w fun e_ w' => ∃ v : Value, e_ = .returned v ∧ Kd.R k50 50 w' w.heap.size (fun _ => True) v L ∧ Below w.heap.size w w' := builder_Pool.frame L (by have := h.2.1; omega) F g w h.1
theorem rows_same {k : Nat} {w : World} {L : List S50} {A B : Option Addr} {c d b b' : Nat} {ok ok' : Nat → Prop} (h1 : Kd.R k50 50 w b ok (.slice A L.length c) L) (h2 : Kd.R k50 50 w b' ok' (.slice B L.length d) L) (hsm : keystonelaw3_Same.f k L L = some true) :
    Calls Tryd.prog 17 #[.slice A L.length c, .slice B L.length d] w fun e_ w' => e_ = .returned (.bool true) ∧ Below w.heap.size w w' :=
  (keystonelaw3_Same.calls k A c L B d L true _ (Kd.R_reads' h1).2.2 (Kd.R_reads' h1).2.1 (Kd.R_reads' h2).2.2 (Kd.R_reads' h2).2.1 hsm).mono (fun e w' ⟨he, hd⟩ => ⟨he, hd.below⟩)
theorem Kd.R_within {w : World} {base : Nat} {v : Value} {L : List S50} {ok : Nat → Prop} (h : Kd.R k50 50 w base ok v L) : Kd.R k50 50 w 0 (fun k => base ≤ k ∧ k < w.heap.size) v L := Kd.R_lower (Kd.R_mono (Kd.R_bound h) (fun k hk => ⟨hk.2.1, hk.2.2.1⟩)) (Nat.zero_le _)
theorem own_lo {w : World} {base : Nat} {v : Value} {L : List S50} {ok : Nat → Prop} (h : Kd.R k50 50 w base ok v L) (k : Nat) (e : v.ownBlock = some k) : base ≤ k := ((Kd.R_within h).1 k e).1
end Go.Proofs.YtldejfkplnejjaaDoor.P
