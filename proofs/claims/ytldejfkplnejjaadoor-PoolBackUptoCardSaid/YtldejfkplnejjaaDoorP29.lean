/- Printed parts. -/
import Derived.Test.YtldejfkplnejjaaDoorP0
import Derived.Test.YtldejfkplnejjaaDoorP6
import Derived.Test.YtldejfkplnejjaaDoorExt
import Derived.Test.YtldejfkplnejjaaDoorShort
import Derived.Test.YtldejfkplnejjaaDoorShort2
import Derived.Test.YtldejfkplnejjaaDoorP1
import Derived.Test.YtldejfkplnejjaaDoorExtText
namespace Go.Proofs.YtldejfkplnejjaaDoor.P
open Go.RowKit Go.Proofs.YtldejfkplnejjaaDoorW.PrintWords Go.Proofs.YtldejfkplnejjaaDoorW.PrintLast Go.Proofs.YtldejfkplnejjaaDoorW.PrintMore
attribute [local go_sem] max2_int min2_int max_two min_two max_three min_three max_four min_four   -- for this text's walks alone
set_option linter.unusedVariables false
set_option linter.unusedSimpArgs false
def keystoneref2_Check.j0 : Nat → Bool → Int → ByteArray → Option (Int)
  | 0, _, _, _ => none
  | k + 1, x10, x686000, x686001 => if x10 = true then (some 1) else (if x686001.toList = ([] : List UInt8) then (some 0) else ((keystoneref2_Name.f k x686001).bind fun t686 => (if t686 = true then (some 0) else (some 14))))
def keystoneref2_Check.f (k : Nat) (a0_0 : Int) (a0_1 : ByteArray) : Option (Int) := if a0_0 < 0 then (keystoneref2_Check.j0 k true a0_0 a0_1) else (keystoneref2_Check.j0 k (decide (a0_0 > 8)) a0_0 a0_1)
end Go.Proofs.YtldejfkplnejjaaDoor.P
namespace Go.Proofs.YtldejfkplnejjaaDoor.P
open Go.RowKit Go.Proofs.YtldejfkplnejjaaDoorW.PrintWords Go.Proofs.YtldejfkplnejjaaDoorW.PrintLast Go.Proofs.YtldejfkplnejjaaDoorW.PrintMore
attribute [local go_sem] max2_int min2_int max_two min_two max_three min_three max_four min_four   -- for this text's walks alone
set_option linter.unusedVariables false
set_option linter.unusedSimpArgs false
mutual
def keystoneref2_TypeText.j0 : Nat → ByteArray → Int → ByteArray → Option (ByteArray × Int)
  | 0, _, _, _ => none
  | k + 1, x5, x688000, x688001 => keystoneref2_TypeText.l0 k x5 0 x688000 x688001
def keystoneref2_TypeText.l0 : Nat → ByteArray → Int → Int → ByteArray → Option (ByteArray × Int)
  | 0, _, _, _, _ => none
  | k + 1, x5, x6, x688000, x688001 => if x6 < x688000 then (if 1 + x5.size ≤ 9223372036854775807 then (keystoneref2_TypeText.l0 k ((⟨#[91]⟩ : ByteArray) ++ x5) (wrap64 (x6 + 1)) x688000 x688001) else (none)) else (some (x5, 0))
end
def keystoneref2_TypeText.f (k : Nat) (a0_0 : Int) (a0_1 : ByteArray) : Option (ByteArray × Int) := (keystoneref2_Check.f k a0_0 a0_1).bind fun t688 => (if t688 = 0 then (if a0_1.toList = ([] : List UInt8) then (keystoneref2_TypeText.j0 k (⟨#[73]⟩ : ByteArray) a0_0 a0_1) else (if 1 + a0_1.size ≤ 9223372036854775807 then (if ((⟨#[76]⟩ : ByteArray) ++ a0_1).size + 1 ≤ 9223372036854775807 then (keystoneref2_TypeText.j0 k (((⟨#[76]⟩ : ByteArray) ++ a0_1) ++ (⟨#[59]⟩ : ByteArray)) a0_0 a0_1) else (none)) else (none))) else (some ((⟨#[]⟩ : ByteArray), t688)))
end Go.Proofs.YtldejfkplnejjaaDoor.P
namespace Go.Proofs.YtldejfkplnejjaaDoor.P
open Go.RowKit Go.Proofs.YtldejfkplnejjaaDoorW.PrintWords Go.Proofs.YtldejfkplnejjaaDoorW.PrintLast Go.Proofs.YtldejfkplnejjaaDoorW.PrintMore
attribute [local go_sem] max2_int min2_int max_two min_two max_three min_three max_four min_four   -- for this text's walks alone
set_option linter.unusedVariables false
set_option linter.unusedSimpArgs false
attribute [local go_sem high] eqA34
def keystoneref2_SigText.l0 : Nat → ByteArray → Int → List (S34) → Bool → Int → ByteArray → Option (ByteArray × Int)
  | 0, _, _, _, _, _, _ => none
  | k + 1, x4, x5, x690000, x690001, x690002, x690003 => if x5 < (x690000.length : Int) then (if 0 ≤ x5 then ((keystoneref2_TypeText.f k ((rd_T34 x690000 x5).f0) ((rd_T34 x690000 x5).f1)).bind fun bt691 => (if bt691.2 = 0 then (if x4.size + bt691.1.size ≤ 9223372036854775807 then (keystoneref2_SigText.l0 k (x4 ++ bt691.1) (wrap64 (x5 + 1)) x690000 x690001 x690002 x690003) else (none)) else (some ((⟨#[]⟩ : ByteArray), bt691.2)))) else (none)) else (if x690001 = true then (if (!(x690002 == 0) || (!(x690003.toList == ([] : List UInt8)))) = true then (some ((⟨#[]⟩ : ByteArray), 1)) else (if x4.size + 2 ≤ 9223372036854775807 then (some (x4 ++ (⟨#[41, 86]⟩ : ByteArray), 0)) else (none))) else ((keystoneref2_TypeText.f k x690002 x690003).bind fun bt693 => (if bt693.2 = 0 then (if x4.size + 1 ≤ 9223372036854775807 then (if (x4 ++ (⟨#[41]⟩ : ByteArray)).size + bt693.1.size ≤ 9223372036854775807 then (some ((x4 ++ (⟨#[41]⟩ : ByteArray)) ++ bt693.1, 0)) else (none)) else (none)) else (some ((⟨#[]⟩ : ByteArray), bt693.2)))))
def keystoneref2_SigText.f (k : Nat) (l0_0 : List (S34)) (a0_1 : Bool) (a0_2 : Int) (a0_3 : ByteArray) : Option (ByteArray × Int) := if (l0_0.length : Int) > 16 then (some ((⟨#[]⟩ : ByteArray), 4)) else (keystoneref2_SigText.l0 k (⟨#[40]⟩ : ByteArray) 0 l0_0 a0_1 a0_2 a0_3)
end Go.Proofs.YtldejfkplnejjaaDoor.P
namespace Go.Proofs.YtldejfkplnejjaaDoor.P
open Go.RowKit Go.Proofs.YtldejfkplnejjaaDoorW.PrintWords Go.Proofs.YtldejfkplnejjaaDoorW.PrintLast Go.Proofs.YtldejfkplnejjaaDoorW.PrintMore
attribute [local go_sem] max2_int min2_int max_two min_two max_three min_three max_four min_four   -- for this text's walks alone
set_option linter.unusedVariables false
set_option linter.unusedSimpArgs false
attribute [local go_sem high] eqA34
mutual
def desc_SigText.l0 : Nat → ByteArray → List (S34) → Int → Int → List (S34) → Bool → Int → ByteArray → Option (ByteArray × Int)
  | 0, _, _, _, _, _, _, _, _ => none
  | k + 1, x4, x16, x17, x18, x696000, x696001, x696002, x696003 => if x18 < x17 then (if 0 ≤ x18 then (if x18 < (x16.length : Int) then ((desc_TypeText.f k ((rd_T34 x16 x18).f0) ((rd_T34 x16 x18).f1)).bind fun bt698 => (if bt698.2 = 0 then (if x4.size + bt698.1.size ≤ 9223372036854775807 then (desc_SigText.l0 k (x4 ++ bt698.1) x16 x17 (wrap64 (x18 + 1)) x696000 x696001 x696002 x696003) else (none)) else (some ((⟨#[]⟩ : ByteArray), bt698.2)))) else (none)) else (none)) else (if x696001 = true then (desc_SigText.j1 k x4 (!(x696002 == 0) || (!(x696003.toList == ([] : List UInt8)))) x696000 x696001 x696002 x696003) else (desc_SigText.j1 k x4 false x696000 x696001 x696002 x696003))
def desc_SigText.j1 : Nat → ByteArray → Bool → List (S34) → Bool → Int → ByteArray → Option (ByteArray × Int)
  | 0, _, _, _, _, _, _ => none
  | k + 1, x4, x41, x696000, x696001, x696002, x696003 => if x41 = true then (some ((⟨#[]⟩ : ByteArray), 1)) else ((desc_TypeText.f k x696002 x696003).bind fun bt700 => (if bt700.2 = 0 then (if x696001 = true then (if x4.size + 1 ≤ 9223372036854775807 then (if (x4 ++ (⟨#[41]⟩ : ByteArray)).size + 1 ≤ 9223372036854775807 then (some ((x4 ++ (⟨#[41]⟩ : ByteArray)) ++ (⟨#[86]⟩ : ByteArray), 0)) else (none)) else (none)) else (if x4.size + 1 ≤ 9223372036854775807 then (if (x4 ++ (⟨#[41]⟩ : ByteArray)).size + bt700.1.size ≤ 9223372036854775807 then (some ((x4 ++ (⟨#[41]⟩ : ByteArray)) ++ bt700.1, 0)) else (none)) else (none))) else (some ((⟨#[]⟩ : ByteArray), bt700.2))))
end
def desc_SigText.f (k : Nat) (l0_0 : List (S34)) (a0_1 : Bool) (a0_2 : Int) (a0_3 : ByteArray) : Option (ByteArray × Int) := if (l0_0.length : Int) > 16 then (some ((⟨#[]⟩ : ByteArray), 4)) else (desc_SigText.l0 k (⟨#[40]⟩ : ByteArray) l0_0 (l0_0.length : Int) 0 l0_0 a0_1 a0_2 a0_3)
set_option maxHeartbeats 8000000 in
set_option maxRecDepth 100000 in
theorem desc_SigText.calls (k : Nat) (A0_0 : Option Addr) (c0_0 : Nat) (l0_0 : List (S34)) (a0_1 : Bool) (a0_2 : Int) (a0_3 : ByteArray) (r1 : ByteArray) (r2 : Int) (w : World) (hr0_0 : Kd.C k34 w A0_0 l0_0.length l0_0) (hc0_0 : l0_0.length ≤ c0_0) (h : desc_SigText.f k l0_0 a0_1 a0_2 a0_3 = some (r1, r2)) :
    Calls Tryd.prog 95 #[.agg #[.slice A0_0 l0_0.length c0_0, .bool a0_1, .int .i64 a0_2, .string a0_3]] w fun e w' => e = .returned (.tuple #[.string r1, .int .i64 r2]) ∧ Below w.heap.size w w' := by
  have hu39 := Tryd.underlying39
  have hu34 := Tryd.underlying34
  have HR0_0 := Aside0.mk hr0_0
  have HC0_0 := Aside0.mk hc0_0
  clear hr0_0 hc0_0
  have HB := Aside0.mk (Below.refl w.heap.size w)
  have H : (if (l0_0.length : Int) > 16 then (some ((⟨#[]⟩ : ByteArray), 4)) else (desc_SigText.l0 k (⟨#[40]⟩ : ByteArray) l0_0 (l0_0.length : Int) 0 l0_0 a0_1 a0_2 a0_3)) = some (r1, r2) := h
  clear h
  by_cases c2 : (l0_0.length : Int) > 16
  · rw [if_pos c2] at H
    have c2b0 : decide (16 < (l0_0.length : Int)) = true := decide_eq_true c2
    have c2b1 : decide (16 < l0_0.length) = true := decide_eq_true (by omega)
    clear c2
    simp only [Option.some.injEq, Prod.mk.injEq] at H
    obtain ⟨rfl, rfl⟩ := H
    go_enter Tryd.func95, Tryd.ntmps95
    go_wp2_with (first | ((with_reducible refine d_ 1 ?_); refine X_ 1 #[.slice A0_0 l0_0.length c0_0, .bool a0_1, .int .i64 a0_2, .string a0_3] 39 ?_; intro gb695 hg w3 hbox hb; have BK695 := Aside0.mk hbox; have GW695 := Aside0.mk (s_ hg); have GE695 := GW695; have HB := bs_ hb; clear hb hbox hg; obtain ⟨hcz4_0, hcz4_1, hcz4_2, hcz4_3, hfz4_0, hfz4_1, hfz4_2, hfz4_3⟩ := c4_ BK695.out))
    go_ret2
    exact ⟨E_, B_⟩
  · rw [if_neg c2] at H
    have c2b0 : decide (16 < (l0_0.length : Int)) = false := decide_eq_false c2
    have c2b1 : decide (16 < l0_0.length) = false := decide_eq_false (by omega)
    clear c2
    have H' := Aside0.mk H
    clear H
    go_enter Tryd.func95, Tryd.ntmps95
    go_wp2_with (first | ((with_reducible refine d_ 1 ?_); refine X_ 1 #[.slice A0_0 l0_0.length c0_0, .bool a0_1, .int .i64 a0_2, .string a0_3] 39 ?_; intro gb695 hg w5 hbox hb; have BK695 := Aside0.mk hbox; have GW695 := Aside0.mk (s_ hg); have GE695 := GW695; have HB := bs_ hb; clear hb hbox hg; obtain ⟨hcz6_0, hcz6_1, hcz6_2, hcz6_3, hfz6_0, hfz6_1, hfz6_2, hfz6_3⟩ := c4_ BK695.out))
    go_loopg [4, 18] k (fun kq v4 v18 w' => ∃ (x4_1 : ByteArray) (x18_1 : Int), v4 = .string x4_1 ∧ v18 = .int .i64 x18_1 ∧ Aside0 (desc_SigText.l0 kq x4_1 l0_0 (l0_0.length : Int) x18_1 l0_0 a0_1 a0_2 a0_3 = some (r1, r2)) ∧ Aside0 (kq ≤ k) ∧ Aside0 (w'.heap[gb695]? = some (.cells #[(.slice A0_0 l0_0.length c0_0), .bool a0_1, .int .i64 a0_2, .string a0_3] 39 (0, 0))) ∧ Aside0 (Below w.heap.size w w'))
    case atStart => exact ⟨((⟨#[40]⟩ : ByteArray)), (0), R_, R_, H', ⟨Nat.le_refl _⟩, ⟨M_⟩, ⟨B_⟩⟩
    case round =>
      clear H'
      try clear c2
      try clear c2b0
      try clear c2b1
      try clear p2
      try clear hcz4_0 hcz4_1 hcz4_2 hcz4_3 hfz4_0 hfz4_1 hfz4_2 hfz4_3
      try clear hcz6_0 hcz6_1 hcz6_2 hcz6_3 hfz6_0 hfz6_1 hfz6_2 hfz6_3
      obtain ⟨x4_1, x18_1, rfl, rfl, HA, HK1, BK695, HB⟩ := hrel
      cases gk with
      | zero => exact absurd HA.out (by simp [desc_SigText.l0])
      | succ k1 =>
        have H := HA.out
        clear HA
        simp only [desc_SigText.l0] at H
        by_cases c7 : x18_1 < (l0_0.length : Int)
        · rw [if_pos c7] at H
          have c7b0 : decide (x18_1 < (l0_0.length : Int)) = true := decide_eq_true c7
          clear c7
          by_cases c8 : 0 ≤ x18_1
          · rw [if_pos c8] at H
            have c8b0 : decide (0 ≤ x18_1) = true := decide_eq_true c8
            clear c8
            by_cases c9 : x18_1 < (l0_0.length : Int)
            · rw [if_pos c9] at H
              have c9b0 : decide (x18_1 < (l0_0.length : Int)) = true := decide_eq_true c9
              clear c9
              replace H := Option.bind_eq_some_iff.mp H
              obtain ⟨⟨t698, t699⟩, A100, H⟩ := H
              replace H : (if t699 = 0 then (if x4_1.size + t698.size ≤ 9223372036854775807 then (desc_SigText.l0 k1 (x4_1 ++ t698) l0_0 (l0_0.length : Int) (wrap64 (x18_1 + 1)) l0_0 a0_1 a0_2 a0_3) else (none)) else (some ((⟨#[]⟩ : ByteArray), t699))) = some (r1, r2) := H
              have A10 := Aside0.mk A100
              clear A100
              by_cases c11 : t699 = 0
              · rw [if_pos c11] at H
                have c11b0 : (t699 == 0) = true := beq_iff_eq.mpr c11
                have c11b1 : (t699 != 0) = false := bne_eq_false_iff_eq.mpr c11
                clear c11
                by_cases c12 : x4_1.size + t698.size ≤ 9223372036854775807
                · rw [if_pos c12] at H
                  have c12b0 := eq_true c12
                  have c12b1 : decide (x4_1.size + t698.size ≤ 9223372036854775807) = true := decide_eq_true c12
                  try have c12b2 : (9223372036854775807 < x4_1.size + t698.size) = False := eq_false (Nat.not_lt.2 c12)
                  have H' := Aside0.mk H
                  clear H
                  have p696 : 0 ≤ (x18_1 : Int) := of_decide_eq_true A_
                  have q696 : x18_1 < (l0_0.length : Int) := of_decide_eq_true A_
                  obtain ⟨ad696, e696, hx696_0, hx696_1⟩ := at_T34 HR0_0.out x18_1 p696 q696
                  cases e696
                  replace hx696_0 := h_ HB hx696_0
                  replace hx696_1 := h_ HB hx696_1
                  replace p696 := eq_true p696
                  replace q696 := eq_true q696
                  go_wp2_with (first | ((with_reducible refine d_ 6 ?_); refine X_ 6 #[.int .i64 0, .string (⟨#[]⟩ : ByteArray)] 34 ?_; intro gb697 hg w13 hbox hb; have BK697 := Aside0.mk hbox; have GW697 := Aside0.mk (s_ hg); have GE697 := GW697; have NB695_697 := Aside0.mk (xx_ hg BK695); have BK695 := kb_ BK695 hb; have NB697_695 := Aside0.mk NB695_697.out.symm; have HB := bs_ hb; clear hb hbox hg; have hnb14 := NB697_695.out; have hnc14 := NB695_697.out; obtain ⟨hcz15_0, hcz15_1, hfz15_0, hfz15_1⟩ := c2_ BK697.out) | ((with_reducible refine gt_ 75 ?_); refine gd_ 24 Tryd.func75 (desc_TypeText.calls k1 ((rd_T34 l0_0 x18_1).f0) ((rd_T34 l0_0 x18_1).f1) t698 t699 _ A10.out) ?_; intro w16 hb; have BK695 := Aside0.mk (blk_below (g := gb695) (o := .cells #[.slice (some ad696) l0_0.length c0_0, .bool a0_1, .int .i64 a0_2, .string a0_3] 39 (0, 0)) P_ hb); have BK697 := Aside0.mk (blk_below (g := gb697) (o := .cells #[.int .i64 ((rd_T34 l0_0 x18_1).f0), .string ((rd_T34 l0_0 x18_1).f1)] 34 (0, 0)) P_ hb); have HB := bs_ hb; (try clear hb); (try clear hb2); (try clear hk); (try clear hi)))
                  go_roundg k1
                  case measure => have := HK1.out; omega
                  case rel => exact ⟨(x4_1 ++ t698), (wrap64 (x18_1 + 1)), R_, R_, H', ⟨by have := HK1.out; omega⟩, ⟨M_⟩, ⟨B_⟩⟩
                · rw [if_neg c12] at H
                  exact absurd H (by simp)
              · rw [if_neg c11] at H
                have c11b0 : (t699 == 0) = false := beq_eq_false_iff_ne.mpr c11
                have c11b1 : (t699 != 0) = true := bne_iff_ne.mpr c11
                simp only [Option.some.injEq, Prod.mk.injEq] at H
                obtain ⟨rfl, rfl⟩ := H
                have p696 : 0 ≤ (x18_1 : Int) := of_decide_eq_true A_
                have q696 : x18_1 < (l0_0.length : Int) := of_decide_eq_true A_
                obtain ⟨ad696, e696, hx696_0, hx696_1⟩ := at_T34 HR0_0.out x18_1 p696 q696
                cases e696
                replace hx696_0 := h_ HB hx696_0
                replace hx696_1 := h_ HB hx696_1
                replace p696 := eq_true p696
                replace q696 := eq_true q696
                go_wp2_with (first | ((with_reducible refine d_ 6 ?_); refine X_ 6 #[.int .i64 0, .string (⟨#[]⟩ : ByteArray)] 34 ?_; intro gb697 hg w17 hbox hb; have BK697 := Aside0.mk hbox; have GW697 := Aside0.mk (s_ hg); have GE697 := GW697; have NB695_697 := Aside0.mk (xx_ hg BK695); have BK695 := kb_ BK695 hb; have NB697_695 := Aside0.mk NB695_697.out.symm; have HB := bs_ hb; clear hb hbox hg; have hnb18 := NB697_695.out; have hnc18 := NB695_697.out; obtain ⟨hcz19_0, hcz19_1, hfz19_0, hfz19_1⟩ := c2_ BK697.out) | ((with_reducible refine gt_ 75 ?_); refine gd_ 24 Tryd.func75 (desc_TypeText.calls k1 ((rd_T34 l0_0 x18_1).f0) ((rd_T34 l0_0 x18_1).f1) t698 t699 _ A10.out) ?_; intro w20 hb; have BK695 := Aside0.mk (blk_below (g := gb695) (o := .cells #[.slice (some ad696) l0_0.length c0_0, .bool a0_1, .int .i64 a0_2, .string a0_3] 39 (0, 0)) P_ hb); have BK697 := Aside0.mk (blk_below (g := gb697) (o := .cells #[.int .i64 ((rd_T34 l0_0 x18_1).f0), .string ((rd_T34 l0_0 x18_1).f1)] 34 (0, 0)) P_ hb); have HB := bs_ hb; (try clear hb); (try clear hb2); (try clear hk); (try clear hi)))
                go_ret2
                exact ⟨E_, B_⟩
            · rw [if_neg c9] at H
              exact absurd H (by simp)
          · rw [if_neg c8] at H
            exact absurd H (by simp)
        · rw [if_neg c7] at H
          have c7b0 : decide (x18_1 < (l0_0.length : Int)) = false := decide_eq_false c7
          clear c7
          have HC21 := Aside0.mk H
          clear H
          go_upto_region 12 with (fail)
          go_cut [41] (fun v41 wc => ∃ (kq : Nat) (x41_20 : Bool), v41 = .bool x41_20 ∧ Aside0 (desc_SigText.j1 kq x4_1 x41_20 l0_0 a0_1 a0_2 a0_3 = some (r1, r2)) ∧ Aside0 (kq ≤ k1) ∧ Aside0 (wc.heap[gb695]? = some (.cells #[(.slice A0_0 l0_0.length c0_0), .bool a0_1, .int .i64 a0_2, .string a0_3] 39 (0, 0))) ∧ Aside0 (Below w.heap.size w wc))
          case first =>
            have H := HC21.out
            clear HC21
            by_cases c22 : a0_1 = true
            · subst c22
              have H1 : (desc_SigText.j1 k1 x4_1 (!(a0_2 == 0) || (!(a0_3.toList == ([] : List UInt8)))) l0_0 true a0_2 a0_3) = some (r1, r2) := by rw [if_pos rfl] at H; exact H
              clear H
              have H := H1
              clear H1
              have H' := Aside0.mk H
              clear H
              obtain ⟨hcz23_0, hcz23_1, hcz23_2, hcz23_3, hfz23_0, hfz23_1, hfz23_2, hfz23_3⟩ := c4_ BK695.out
              go_wp2
              go_meet
              case rel => exact ⟨_, ((!(a0_2 == 0) || (!(a0_3.toList == ([] : List UInt8))))), R_, H', ⟨by have := HK1.out; first | omega | exact Nat.le_refl _⟩, ⟨M_⟩, ⟨B_⟩⟩
            · replace c22 := Bool.eq_false_iff.mpr c22
              subst c22
              have H1 : (desc_SigText.j1 k1 x4_1 false l0_0 false a0_2 a0_3) = some (r1, r2) := by rw [if_neg (show ¬ (false = true) by decide)] at H; exact H
              clear H
              have H := H1
              clear H1
              have H' := Aside0.mk H
              clear H
              obtain ⟨hcz24_0, hcz24_1, hcz24_2, hcz24_3, hfz24_0, hfz24_1, hfz24_2, hfz24_3⟩ := c4_ BK695.out
              go_wp2
              go_meet
              case rel => exact ⟨_, (false), R_, H', ⟨by have := HK1.out; first | omega | exact Nat.le_refl _⟩, ⟨M_⟩, ⟨B_⟩⟩
          case rest =>
            clear HC21
            try clear c1
            try clear c2
            try clear c2b0
            try clear c2b1
            try clear p2
            try clear p6
            try clear q6
            try clear hx6
            try clear c7
            try clear c7b0
            try clear c8
            try clear c8b0
            try clear c9
            try clear c9b0
            try clear c11
            try clear c11b0
            try clear c11b1
            try clear c12
            try clear c12b0
            try clear c12b1
            try clear c12b2
            try clear c14
            try clear c18
            try clear c22
            try clear hcz15_0 hcz15_1 hfz15_0 hfz15_1
            try clear hcz19_0 hcz19_1 hfz19_0 hfz19_1
            try clear hcz23_0 hcz23_1 hcz23_2 hcz23_3 hfz23_0 hfz23_1 hfz23_2 hfz23_3
            try clear hcz24_0 hcz24_1 hcz24_2 hcz24_3 hfz24_0 hfz24_1 hfz24_2 hfz24_3
            try clear hcz4_0 hcz4_1 hcz4_2 hcz4_3 hfz4_0 hfz4_1 hfz4_2 hfz4_3
            try clear hcz6_0 hcz6_1 hcz6_2 hcz6_3 hfz6_0 hfz6_1 hfz6_2 hfz6_3
            try clear hx696_0
            try clear hx696_1
            try clear p2
            try clear p696
            try clear q696
            obtain ⟨kq, x41_20, rfl, HA, HJ20, BK695, HB⟩ := hcut
            cases kq with
            | zero => exact absurd HA.out (by simp [desc_SigText.j1])
            | succ kj20 =>
              have H := HA.out
              clear HA
              simp only [desc_SigText.j1] at H
              by_cases c25 : x41_20 = true
              · subst c25
                have H1 : (some ((⟨#[]⟩ : ByteArray), 1)) = some (r1, r2) := by rw [if_pos rfl] at H; exact H
                clear H
                have H := H1
                clear H1
                simp only [Option.some.injEq, Prod.mk.injEq] at H
                obtain ⟨rfl, rfl⟩ := H
                go_wp2
                go_ret2
                exact ⟨E_, B_⟩
              · replace c25 := Bool.eq_false_iff.mpr c25
                subst c25
                have H1 : ((desc_TypeText.f kj20 a0_2 a0_3).bind fun bt700 => (if bt700.2 = 0 then (if a0_1 = true then (if x4_1.size + 1 ≤ 9223372036854775807 then (if (x4_1 ++ (⟨#[41]⟩ : ByteArray)).size + 1 ≤ 9223372036854775807 then (some ((x4_1 ++ (⟨#[41]⟩ : ByteArray)) ++ (⟨#[86]⟩ : ByteArray), 0)) else (none)) else (none)) else (if x4_1.size + 1 ≤ 9223372036854775807 then (if (x4_1 ++ (⟨#[41]⟩ : ByteArray)).size + bt700.1.size ≤ 9223372036854775807 then (some ((x4_1 ++ (⟨#[41]⟩ : ByteArray)) ++ bt700.1, 0)) else (none)) else (none))) else (some ((⟨#[]⟩ : ByteArray), bt700.2)))) = some (r1, r2) := by rw [if_neg (show ¬ (false = true) by decide)] at H; exact H
                clear H
                have H := H1
                clear H1
                replace H := Option.bind_eq_some_iff.mp H
                obtain ⟨⟨t700, t701⟩, A260, H⟩ := H
                replace H : (if t701 = 0 then (if a0_1 = true then (if x4_1.size + 1 ≤ 9223372036854775807 then (if (x4_1 ++ (⟨#[41]⟩ : ByteArray)).size + 1 ≤ 9223372036854775807 then (some ((x4_1 ++ (⟨#[41]⟩ : ByteArray)) ++ (⟨#[86]⟩ : ByteArray), 0)) else (none)) else (none)) else (if x4_1.size + 1 ≤ 9223372036854775807 then (if (x4_1 ++ (⟨#[41]⟩ : ByteArray)).size + t700.size ≤ 9223372036854775807 then (some ((x4_1 ++ (⟨#[41]⟩ : ByteArray)) ++ t700, 0)) else (none)) else (none))) else (some ((⟨#[]⟩ : ByteArray), t701))) = some (r1, r2) := H
                have A26 := Aside0.mk A260
                clear A260
                by_cases c27 : t701 = 0
                · rw [if_pos c27] at H
                  have c27b0 : (t701 == 0) = true := beq_iff_eq.mpr c27
                  have c27b1 : (t701 != 0) = false := bne_eq_false_iff_eq.mpr c27
                  clear c27
                  by_cases c28 : a0_1 = true
                  · subst c28
                    have H1 : (if x4_1.size + 1 ≤ 9223372036854775807 then (if (x4_1 ++ (⟨#[41]⟩ : ByteArray)).size + 1 ≤ 9223372036854775807 then (some ((x4_1 ++ (⟨#[41]⟩ : ByteArray)) ++ (⟨#[86]⟩ : ByteArray), 0)) else (none)) else (none)) = some (r1, r2) := by rw [if_pos rfl] at H; exact H
                    clear H
                    have H := H1
                    clear H1
                    by_cases c29 : x4_1.size + 1 ≤ 9223372036854775807
                    · rw [if_pos c29] at H
                      have c29b0 := eq_true c29
                      have c29b1 : decide (x4_1.size + 1 ≤ 9223372036854775807) = true := decide_eq_true c29
                      try have c29b2 : (9223372036854775807 < x4_1.size + 1) = False := eq_false (Nat.not_lt.2 c29)
                      by_cases c30 : (x4_1 ++ (⟨#[41]⟩ : ByteArray)).size + 1 ≤ 9223372036854775807
                      · rw [if_pos c30] at H
                        have c30b0 := eq_true c30
                        have c30b1 : decide ((x4_1 ++ (⟨#[41]⟩ : ByteArray)).size + 1 ≤ 9223372036854775807) = true := decide_eq_true c30
                        try have c30b2 : (9223372036854775807 < (x4_1 ++ (⟨#[41]⟩ : ByteArray)).size + 1) = False := eq_false (Nat.not_lt.2 c30)
                        (try (have c30b3 := c30b2; simp only [ByteArray.size_append, show (⟨#[41]⟩ : ByteArray).size = 1 from rfl] at c30b3))
                        simp only [Option.some.injEq, Prod.mk.injEq] at H
                        obtain ⟨rfl, rfl⟩ := H
                        obtain ⟨hcz31_0, hcz31_1, hcz31_2, hcz31_3, hfz31_0, hfz31_1, hfz31_2, hfz31_3⟩ := c4_ BK695.out
                        go_wp2_with (first | ((with_reducible refine gt_ 75 ?_); refine gd_ 45 Tryd.func75 (desc_TypeText.calls kj20 a0_2 a0_3 t700 t701 _ A26.out) ?_; intro w32 hb; have BK695 := kb_ BK695 hb; have HB := bs_ hb; (try clear hb); (try clear hb2); (try clear hk); (try clear hi); obtain ⟨hcz33_0, hcz33_1, hcz33_2, hcz33_3, hfz33_0, hfz33_1, hfz33_2, hfz33_3⟩ := c4_ BK695.out))
                        go_ret2
                        exact ⟨E_, B_⟩
                      · rw [if_neg c30] at H
                        exact absurd H (by simp)
                    · rw [if_neg c29] at H
                      exact absurd H (by simp)
                  · replace c28 := Bool.eq_false_iff.mpr c28
                    subst c28
                    have H1 : (if x4_1.size + 1 ≤ 9223372036854775807 then (if (x4_1 ++ (⟨#[41]⟩ : ByteArray)).size + t700.size ≤ 9223372036854775807 then (some ((x4_1 ++ (⟨#[41]⟩ : ByteArray)) ++ t700, 0)) else (none)) else (none)) = some (r1, r2) := by rw [if_neg (show ¬ (false = true) by decide)] at H; exact H
                    clear H
                    have H := H1
                    clear H1
                    by_cases c34 : x4_1.size + 1 ≤ 9223372036854775807
                    · rw [if_pos c34] at H
                      have c34b0 := eq_true c34
                      have c34b1 : decide (x4_1.size + 1 ≤ 9223372036854775807) = true := decide_eq_true c34
                      try have c34b2 : (9223372036854775807 < x4_1.size + 1) = False := eq_false (Nat.not_lt.2 c34)
                      by_cases c35 : (x4_1 ++ (⟨#[41]⟩ : ByteArray)).size + t700.size ≤ 9223372036854775807
                      · rw [if_pos c35] at H
                        have c35b0 := eq_true c35
                        have c35b1 : decide ((x4_1 ++ (⟨#[41]⟩ : ByteArray)).size + t700.size ≤ 9223372036854775807) = true := decide_eq_true c35
                        try have c35b2 : (9223372036854775807 < (x4_1 ++ (⟨#[41]⟩ : ByteArray)).size + t700.size) = False := eq_false (Nat.not_lt.2 c35)
                        (try (have c35b3 := c35b2; simp only [ByteArray.size_append, show (⟨#[41]⟩ : ByteArray).size = 1 from rfl] at c35b3))
                        simp only [Option.some.injEq, Prod.mk.injEq] at H
                        obtain ⟨rfl, rfl⟩ := H
                        obtain ⟨hcz36_0, hcz36_1, hcz36_2, hcz36_3, hfz36_0, hfz36_1, hfz36_2, hfz36_3⟩ := c4_ BK695.out
                        go_wp2_with (first | ((with_reducible refine gt_ 75 ?_); refine gd_ 45 Tryd.func75 (desc_TypeText.calls kj20 a0_2 a0_3 t700 t701 _ A26.out) ?_; intro w37 hb; have BK695 := kb_ BK695 hb; have HB := bs_ hb; (try clear hb); (try clear hb2); (try clear hk); (try clear hi); obtain ⟨hcz38_0, hcz38_1, hcz38_2, hcz38_3, hfz38_0, hfz38_1, hfz38_2, hfz38_3⟩ := c4_ BK695.out))
                        go_ret2
                        exact ⟨E_, B_⟩
                      · rw [if_neg c35] at H
                        exact absurd H (by simp)
                    · rw [if_neg c34] at H
                      exact absurd H (by simp)
                · rw [if_neg c27] at H
                  have c27b0 : (t701 == 0) = false := beq_eq_false_iff_ne.mpr c27
                  have c27b1 : (t701 != 0) = true := bne_iff_ne.mpr c27
                  simp only [Option.some.injEq, Prod.mk.injEq] at H
                  obtain ⟨rfl, rfl⟩ := H
                  obtain ⟨hcz39_0, hcz39_1, hcz39_2, hcz39_3, hfz39_0, hfz39_1, hfz39_2, hfz39_3⟩ := c4_ BK695.out
                  go_wp2_with (first | ((with_reducible refine gt_ 75 ?_); refine gd_ 45 Tryd.func75 (desc_TypeText.calls kj20 a0_2 a0_3 t700 t701 _ A26.out) ?_; intro w40 hb; have BK695 := kb_ BK695 hb; have HB := bs_ hb; (try clear hb); (try clear hb2); (try clear hk); (try clear hi)))
                  go_ret2
                  exact ⟨E_, B_⟩
end Go.Proofs.YtldejfkplnejjaaDoor.P
