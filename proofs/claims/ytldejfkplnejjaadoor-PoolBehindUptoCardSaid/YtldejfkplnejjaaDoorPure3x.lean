/- The reference's comparison of a signature with itself. -/
import Derived.Test.YtldejfkplnejjaaDoorPure3v
import Derived.Test.YtldejfkplnejjaaDoorP11
namespace Go.Proofs.YtldejfkplnejjaaDoor.Pure
open Go.RowKit Go.Proofs.YtldejfkplnejjaaDoor.P Go.Proofs.YtldejfkplnejjaaDoorW.PrintWords
set_option linter.unusedVariables false
theorem rsame_l (ps : List Ty) (v : Bool) (d : Int) (m : ByteArray) (hn : ps.length ≤ 9000000000000) : ∀ (c j : Nat), j + c = ps.length → Ev (fun k => keystoneref2_Same.l0 k (j : Int) ps v d m ps v d m) true
  | 0, j, hj => by
    refine Ev.step (fun k => by rw [keystoneref2_Same.l0]) ?_
    exact Ev_neg (by omega) (Ev.now _)
  | c + 1, j, hj => by
    have ih := rsame_l ps v d m hn c (j + 1) (by omega)
    have hw : wrap64 ((j : Int) + 1) = ((j + 1 : Nat) : Int) := by rw [w64] <;> omega
    exact Ev.step (fun k => by rw [keystoneref2_Same.l0, hw]) (Ev_pos (by omega) (Ev_pos (by omega) (Ev_pos (by omega) (Ev_neg (by simp) ih))))
theorem rsame_t (g : List Ty × Bool × Int × ByteArray) (hn : g.1.length ≤ 9000000000000) : Ev (fun k => keystoneref2_Same.f k g.1 g.2.1 g.2.2.1 g.2.2.2 g.1 g.2.1 g.2.2.1 g.2.2.2) true := by
  obtain ⟨ps, v, d, m⟩ := g
  unfold keystoneref2_Same.f
  refine Ev_neg (by simp) (Ev_neg (by simp) ?_)
  refine Ev.step (fun k => by rw [keystoneref2_Same.j0]) ?_
  exact Ev_neg (by simp) (by simpa using rsame_l ps v d m hn ps.length 0 (Nat.zero_add _))
theorem method_len (l : List En) (i : Int) : (methodV l i).2.2.1.length ≤ 16 := by
  unfold methodV
  rcases right_cases l i 6 with ⟨x, hr, hk, hw, h3⟩ | ⟨e, he, hr⟩
  · rw [hr]
    simp only
    split
    · exact sigS_len _
    · simp
  · rw [hr]; simp
end Go.Proofs.YtldejfkplnejjaaDoor.Pure
