/- DescOwn, plainly. -/
import Derived.Test.YtlajkmnmooilmaaDoorPure2m
import Derived.Test.YtlajkmnmooilmaaDoorPureKnown2
import Derived.Test.YtlajkmnmooilmaaDoorP27
namespace Go.Proofs.YtlajkmnmooilmaaDoor.Pure
open Go.RowKit Go.Proofs.YtlajkmnmooilmaaDoor.P Go.Proofs.YtlajkmnmooilmaaDoorW.PrintWords Go.Proofs.YtlajkmnmooilmaaDoor.Open
set_option linter.unusedVariables false
theorem own_l2 (x1 : List Ty) (h1 : x1.length ≤ 100) (h2 : ∀ t ∈ x1, t.f1.size ≤ 140737488355328) (v0 : Bool) (d0 : Int) (m0 : ByteArray) (ps : List Ty) (v : Bool) (d : Int) (m : ByteArray) (hp : ps.length ≤ 16) : ∀ (c j : Nat) (X : List Ty), j + c = 20 → X.length ≤ 16 + j →
    Ev (fun k => keystonelaw2_DescOwn.l2 k x1 (makeS true x1).2.2.2.2 (j : Int) X v0 d0 m0 ps v d m ps v d m (makeS true x1).1 (makeS true x1).2.1 (makeS true x1).2.2.1 (makeS true x1).2.2.2.1) true
  | 0, j, X, hj, hX => by
    have hs := dsame_f ps v d m ps v d m (by omega)
    rw [sameS_refl] at hs
    have hl : (makeS true x1).1.length ≤ 100 := by
      unfold makeS mkS
      rw [if_pos rfl]
      split
      · exact h1
      · simp
    have hq := dsame_f (makeS true x1).1 (makeS true x1).2.1 (makeS true x1).2.2.1 (makeS true x1).2.2.2.1 (makeS true x1).1 (makeS true x1).2.1 (makeS true x1).2.2.1 (makeS true x1).2.2.2.1 (by omega)
    rw [sameS_refl] at hq
    refine Ev.step (fun k => by rw [keystonelaw2_DescOwn.l2]) (Ev_neg (by omega) (Ev.bind (dmake_f true x1 (by omega) h2) (Ev.bind hs (Ev_pos rfl ?_))))
    by_cases he : (makeS true x1).2.2.2.2 = 0
    · exact Ev_pos he (Ev.bind hq (Ev.now _))
    · exact Ev_neg he (Ev.now _)
  | c + 1, j, X, hj, hX => by
    refine Ev.step (fun k => by rw [keystonelaw2_DescOwn.l2]) (Ev_pos (by omega) (Ev_pos (by omega) ?_))
    rw [show wrap64 ((j : Int) + 1) = ((j + 1 : Nat) : Int) by rw [w64] <;> omega]
    exact own_l2 x1 h1 h2 v0 d0 m0 ps v d m hp c (j + 1) _ (by omega) (by simp; omega)
theorem own_l1 (x1 : List Ty) (h1 : x1.length ≤ 100) (h2 : ∀ t ∈ x1, t.f1.size ≤ 140737488355328) (v0 : Bool) (d0 : Int) (m0 : ByteArray) (ps : List Ty) (v : Bool) (d : Int) (m : ByteArray) (hp : ps.length ≤ 16) (X : List Ty) (hX : X.length ≤ 16) : ∀ (c j : Nat) (Y : List Ty), j + c = Y.length → Y.length ≤ 100 →
    Ev (fun k => keystonelaw2_DescOwn.l1 k x1 Y (makeS true x1).2.2.2.2 (j : Int) X v0 d0 m0 ps v d m ps v d m (makeS true x1).1 (makeS true x1).2.1 (makeS true x1).2.2.1 (makeS true x1).2.2.2.1) true
  | 0, j, Y, hj, hY => by
    refine Ev.step (fun k => by rw [keystonelaw2_DescOwn.l1]) (Ev_neg (by omega) ?_)
    exact own_l2 x1 h1 h2 v0 d0 m0 ps v d m hp 20 0 X rfl (by omega)
  | c + 1, j, Y, hj, hY => by
    refine Ev.step (fun k => by rw [keystonelaw2_DescOwn.l1]) (Ev_pos (by omega) (Ev_pos (by omega) ?_))
    rw [show wrap64 ((j : Int) + 1) = ((j + 1 : Nat) : Int) by rw [w64] <;> omega]
    exact own_l1 x1 h1 h2 v0 d0 m0 ps v d m hp X hX c (j + 1) _ (by rw [List.length_set]; omega) (by rw [List.length_set]; exact hY)
theorem own_l0 (x1 : List Ty) (h1 : x1.length ≤ 100) (h2 : ∀ t ∈ x1, t.f1.size ≤ 140737488355328) (v0 : Bool) (d0 : Int) (m0 : ByteArray) (ps : List Ty) (v : Bool) (d : Int) (m : ByteArray) (hp : ps.length ≤ 16) (Y : List Ty) (hY : Y.length ≤ 100) : ∀ (c j : Nat) (X : List Ty), j + c = X.length → X.length ≤ 16 →
    Ev (fun k => keystonelaw2_DescOwn.l0 k x1 Y (makeS true x1).2.2.2.2 (j : Int) X v0 d0 m0 ps v d m ps v d m (makeS true x1).1 (makeS true x1).2.1 (makeS true x1).2.2.1 (makeS true x1).2.2.2.1) true
  | 0, j, X, hj, hX => by
    refine Ev.step (fun k => by rw [keystonelaw2_DescOwn.l0]) (Ev_neg (by omega) ?_)
    exact own_l1 x1 h1 h2 v0 d0 m0 ps v d m hp X hX Y.length 0 Y (Nat.zero_add _) hY
  | c + 1, j, X, hj, hX => by
    refine Ev.step (fun k => by rw [keystonelaw2_DescOwn.l0]) (Ev_pos (by omega) (Ev_pos (by omega) ?_))
    rw [show wrap64 ((j : Int) + 1) = ((j + 1 : Nat) : Int) by rw [w64] <;> omega]
    exact own_l0 x1 h1 h2 v0 d0 m0 ps v d m hp Y hY c (j + 1) _ (by rw [List.length_set]; omega) (by rw [List.length_set]; exact hX)
theorem DescOwn (a0 : ByteArray) (l1 : List Ty) (h0 : a0.size ≤ 140737488351232) (h1 : (∀ x_ ∈ l1, ok26 x_) ∧ l1.length ≤ maxLen ∧ l1.length * 24 ≤ 140737488351232) (B : (a0.size + 1) + (sumOf (fun x_ => m26 x_) l1 + 1) ≤ 1048576) : ∃ k, keystonelaw2_DescOwn.f k a0 l1 = some true := by
  refine Ev.rounds ?_
  have hz : ∀ t ∈ l1, t.f1.size ≤ 140737488355328 := fun t ht => by have := (h1.1 t ht).2; omega
  unfold keystonelaw2_DescOwn.f
  refine Ev.bind known2_t (Ev_pos rfl ?_)
  by_cases hl : ((l1.length : Int) > 100)
  · exact Ev_pos hl (Ev.now _)
  · have hg := sigS_len (LL a0)
    refine Ev_neg hl (Ev.bind (dsig_f _ (by omega)) (Ev.bind (dsig_f _ (by omega)) (Ev_bindc (twin_f _ _ _ _ (by omega)) (Ev_bindc rfl (Ev_pos (by show ([] : List Ty).length + l1.length < _; simp; omega) (Ev_bindc rfl ?_))))))
    simp only [List.nil_append]
    refine Ev.bind (dmake_f true l1 (by omega) hz) ?_
    exact own_l0 l1 (by omega) hz _ _ _ _ _ _ _ hg l1 (by omega) _ 0 _ (Nat.zero_add _) hg
end Go.Proofs.YtlajkmnmooilmaaDoor.Pure
