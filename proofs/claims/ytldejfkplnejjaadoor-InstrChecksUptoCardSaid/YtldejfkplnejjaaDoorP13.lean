-- Written by my program xprint.py (a patched run of the kit's print). Lean checks it.
import Derived.Test.YtldejfkplnejjaaDoorP0
import Derived.Test.YtldejfkplnejjaaDoorP3
import Derived.Test.YtldejfkplnejjaaDoorP10
import Derived.Test.YtldejfkplnejjaaDoorExt
import Derived.Test.YtldejfkplnejjaaDoorShort
import Derived.Test.YtldejfkplnejjaaDoorShort2
namespace Go.Proofs.YtldejfkplnejjaaDoor.P
open Go.RowKit Go.Proofs.YtldejfkplnejjaaDoorW.PrintWords Go.Proofs.YtldejfkplnejjaaDoorW.PrintLast Go.Proofs.YtldejfkplnejjaaDoorW.PrintMore
attribute [local go_sem] max2_int min2_int max_two min_two max_three min_three max_four min_four   -- for this text's walks alone
set_option linter.unusedVariables false
set_option linter.unusedSimpArgs false
def pool_Number.f (k : Nat) (l0 : List (S50)) (a1 : Int) : Option (Int × Int) := (pool_right.f k l0 a1 2).bind fun bt346 => (some (bt346.2.2.1, bt346.2.2.2.2.2.2))
theorem pool_Number.mono : ∀ a0 a1 k, LeO (pool_Number.f k a0 a1) (pool_Number.f (k + 1) a0 a1) := by
 intro a0 a1 k
 unfold pool_Number.f
 repeat' first
  | (with_reducible exact pool_right.mono _ _ _ _)
  | (with_reducible exact LeO.refl _)
  | (with_reducible exact LeO.none _)
  | (with_reducible refine LeO.ite ?_ ?_)
  | (with_reducible refine LeO.bind ?_ (fun _ => ?_))
  | exact pool_right.mono _ _ _ _
  | exact LeO.none _
  | refine LeO.ite ?_ ?_
  | refine LeO.bind ?_ (fun _ => ?_)
set_option maxHeartbeats 8000000 in
set_option maxRecDepth 100000 in
theorem pool_Number.calls (k : Nat) (A0 : Option Addr) (c0 : Nat) (l0 : List (S50)) (a1 : Int) (r1 : Int) (r2 : Int) (w : World) (hr0 : Kd.C k50 w A0 l0.length l0) (hc0 : l0.length ≤ c0) (h : pool_Number.f k l0 a1 = some (r1, r2)) :
 Calls Tryd.prog 24 #[.slice A0 l0.length c0, .int .i64 a1] w fun e w' => e = .returned (.tuple #[.int .i64 r1, .int .i64 r2]) ∧ Below w.heap.size w w' := by
 have hu50 := Tryd.underlying50
 have HR0 := Aside0.mk hr0
 have HC0 := Aside0.mk hc0
 clear hr0 hc0
 have HB := Aside0.mk (Below.refl w.heap.size w)
 have H : ((pool_right.f k l0 a1 2).bind fun bt346 => (some (bt346.2.2.1, bt346.2.2.2.2.2.2))) = some (r1, r2) := h
 clear h
 replace H := Option.bind_eq_some_iff.mp H
 obtain ⟨⟨t346, t347, t348, t349, t350, t351, t352⟩, A30, H⟩ := H
 replace H : (some (t348, t352)) = some (r1, r2) := H
 have A3 := Aside0.mk A30
 clear A30
 simp only [Option.some.injEq, Prod.mk.injEq] at H
 obtain ⟨rfl, rfl⟩ := H
 go_enter Tryd.func24, Tryd.ntmps24
 go_wp2_with (first | ((with_reducible refine gt_ 41 ?_); refine gd_ 11 Tryd.func41 (pool_right.calls k _ _ l0 a1 2 t346 t347 t348 t349 t350 t351 t352 _ (Y_ HR0.out) HC0.out A3.out) ?_; intro w4 hb; have HB := bs_ hb; (try clear hb); (try clear hb2); (try clear hk); (try clear hi)) | ((with_reducible refine d_ 6 ?_); refine X_ 6 #[.int .i64 0, .string (⟨#[]⟩ : ByteArray), .int .i64 0, .int .i64 0, .int .i64 0, .int .i64 0] 50 ?_; intro gb353 hg w5 hbox hb; have BK353 := Aside0.mk hbox; have GW353 := Aside0.mk (s_ hg); have GE353 := GW353; have HB := bs_ hb; clear hb hbox hg; obtain ⟨hcz6_0, hcz6_1, hcz6_2, hcz6_3, hcz6_4, hcz6_5, hfz6_0, hfz6_1, hfz6_2, hfz6_3, hfz6_4, hfz6_5⟩ := c6_ BK353.out))
 go_ret2
 exact ⟨E_, B_⟩
def pool_Type.f (k : Nat) (l0 : List (S50)) (a1 : Int) : Option (Int × ByteArray × Int) := (pool_right.f k l0 a1 4).bind fun bt355 => (if bt355.2.2.2.2.2.2 = 0 then (if 0 ≤ bt355.2.2.2.1 then (if bt355.2.2.2.1 < (l0.length : Int) then ((desc_Type.f k ((rd_T50 l0 bt355.2.2.2.1).f1)).bind fun bt364 => (some (bt364.1, bt364.2.1, bt364.2.2))) else (none)) else (none)) else (some (0, (⟨#[]⟩ : ByteArray), bt355.2.2.2.2.2.2)))
theorem pool_Type.mono : ∀ a0 a1 k, LeO (pool_Type.f k a0 a1) (pool_Type.f (k + 1) a0 a1) := by
 intro a0 a1 k
 unfold pool_Type.f
 repeat' first
  | (with_reducible exact desc_Type.mono _ _)
  | (with_reducible exact pool_right.mono _ _ _ _)
  | (with_reducible exact LeO.refl _)
  | (with_reducible exact LeO.none _)
  | (with_reducible refine LeO.ite ?_ ?_)
  | (with_reducible refine LeO.bind ?_ (fun _ => ?_))
  | exact desc_Type.mono _ _
  | exact pool_right.mono _ _ _ _
  | exact LeO.none _
  | refine LeO.ite ?_ ?_
  | refine LeO.bind ?_ (fun _ => ?_)
set_option maxHeartbeats 8000000 in
set_option maxRecDepth 100000 in
theorem pool_Type.calls (k : Nat) (A0 : Option Addr) (c0 : Nat) (l0 : List (S50)) (a1 : Int) (r1 : Int) (r2 : ByteArray) (r3 : Int) (w : World) (hr0 : Kd.C k50 w A0 l0.length l0) (hc0 : l0.length ≤ c0) (h : pool_Type.f k l0 a1 = some (r1, r2, r3)) :
 Calls Tryd.prog 25 #[.slice A0 l0.length c0, .int .i64 a1] w fun e w' => e = .returned (.tuple #[.agg #[.int .i64 r1, .string r2], .int .i64 r3]) ∧ Below w.heap.size w w' := by
 have hu34 := Tryd.underlying34
 have hu50 := Tryd.underlying50
 have HR0 := Aside0.mk hr0
 have HC0 := Aside0.mk hc0
 clear hr0 hc0
 have HB := Aside0.mk (Below.refl w.heap.size w)
 have H : ((pool_right.f k l0 a1 4).bind fun bt355 => (if bt355.2.2.2.2.2.2 = 0 then (if 0 ≤ bt355.2.2.2.1 then (if bt355.2.2.2.1 < (l0.length : Int) then ((desc_Type.f k ((rd_T50 l0 bt355.2.2.2.1).f1)).bind fun bt364 => (some (bt364.1, bt364.2.1, bt364.2.2))) else (none)) else (none)) else (some (0, (⟨#[]⟩ : ByteArray), bt355.2.2.2.2.2.2)))) = some (r1, r2, r3) := h
 clear h
 replace H := Option.bind_eq_some_iff.mp H
 obtain ⟨⟨t355, t356, t357, t358, t359, t360, t361⟩, A30, H⟩ := H
 replace H : (if t361 = 0 then (if 0 ≤ t358 then (if t358 < (l0.length : Int) then ((desc_Type.f k ((rd_T50 l0 t358).f1)).bind fun bt364 => (some (bt364.1, bt364.2.1, bt364.2.2))) else (none)) else (none)) else (some (0, (⟨#[]⟩ : ByteArray), t361))) = some (r1, r2, r3) := H
 have A3 := Aside0.mk A30
 clear A30
 by_cases c4 : t361 = 0
 ·
  rw [if_pos c4] at H
  have c4b0 : (t361 == 0) = true := beq_iff_eq.mpr c4
  have c4b1 : (t361 != 0) = false := bne_eq_false_iff_eq.mpr c4
  clear c4
  by_cases c5 : 0 ≤ t358
  ·
   rw [if_pos c5] at H
   have c5b0 : decide (0 ≤ t358) = true := decide_eq_true c5
   clear c5
   by_cases c6 : t358 < (l0.length : Int)
   ·
    rw [if_pos c6] at H
    have c6b0 : decide (t358 < (l0.length : Int)) = true := decide_eq_true c6
    clear c6
    replace H := Option.bind_eq_some_iff.mp H
    obtain ⟨⟨t364, t365, t366⟩, A70, H⟩ := H
    replace H : (some (t364, t365, t366)) = some (r1, r2, r3) := H
    have A7 := Aside0.mk A70
    clear A70
    simp only [Option.some.injEq, Prod.mk.injEq] at H
    obtain ⟨rfl, rfl, rfl⟩ := H
    go_enter Tryd.func25, Tryd.ntmps25
    go_wp2_with (first | ((with_reducible refine d_ 4 ?_); refine X_ 4 #[.int .i64 0, .string (⟨#[]⟩ : ByteArray)] 34 ?_; intro gb354 hg w8 hbox hb; have BK354 := Aside0.mk hbox; have GW354 := Aside0.mk (s_ hg); have GE354 := GW354; have HB := bs_ hb; clear hb hbox hg) | ((with_reducible refine gt_ 41 ?_); refine gd_ 11 Tryd.func41 (pool_right.calls k _ _ l0 a1 4 t355 t356 t357 t358 t359 t360 t361 _ (Y_ (Kd.C_below HR0.out HB.out)) HC0.out A3.out) ?_; intro w9 hb; have BK354 := kb_ BK354 hb; have HB := bs_ hb; (try clear hb); (try clear hb2); (try clear hk); (try clear hi)) | ((with_reducible refine d_ 6 ?_); refine X_ 6 #[.int .i64 0, .string (⟨#[]⟩ : ByteArray), .int .i64 0, .int .i64 0, .int .i64 0, .int .i64 0] 50 ?_; intro gb362 hg w10 hbox hb; have BK362 := Aside0.mk hbox; have GW362 := Aside0.mk (s_ hg); have GE362 := GW362; have NB354_362 := Aside0.mk (xx_ hg BK354); have BK354 := kb_ BK354 hb; have NB362_354 := Aside0.mk NB354_362.out.symm; have HB := bs_ hb; clear hb hbox hg; have hnb11 := NB362_354.out; have hnc11 := NB354_362.out; obtain ⟨hcz12_0, hcz12_1, hcz12_2, hcz12_3, hcz12_4, hcz12_5, hfz12_0, hfz12_1, hfz12_2, hfz12_3, hfz12_4, hfz12_5⟩ := c6_ BK362.out; have p363 : 0 ≤ (t358 : Int) := of_decide_eq_true A_; have q363 : t358 < (l0.length : Int) := of_decide_eq_true A_; obtain ⟨ad363, e363, hx363_0, hx363_1, hx363_2, hx363_3, hx363_4, hx363_5⟩ := at_T50 HR0.out t358 p363 q363; cases e363; have hn363_0 : ad363.block ≠ gb362 := Nat.ne_of_lt (Nat.lt_of_lt_of_le (by have := World.block_lt_of_cell? _ _ hx363_0; first | rwa [add_block] at this | exact this) GW362.out); have hn363_1 : ad363.block ≠ gb362 := Nat.ne_of_lt (Nat.lt_of_lt_of_le (by have := World.block_lt_of_cell? _ _ hx363_0; first | rwa [add_block] at this | exact this) GW362.out); have hn363_2 : ad363.block ≠ gb362 := Nat.ne_of_lt (Nat.lt_of_lt_of_le (by have := World.block_lt_of_cell? _ _ hx363_0; first | rwa [add_block] at this | exact this) GW362.out); have hn363_3 : ad363.block ≠ gb362 := Nat.ne_of_lt (Nat.lt_of_lt_of_le (by have := World.block_lt_of_cell? _ _ hx363_0; first | rwa [add_block] at this | exact this) GW362.out); have hn363_4 : ad363.block ≠ gb362 := Nat.ne_of_lt (Nat.lt_of_lt_of_le (by have := World.block_lt_of_cell? _ _ hx363_0; first | rwa [add_block] at this | exact this) GW362.out); have hn363_5 : ad363.block ≠ gb362 := Nat.ne_of_lt (Nat.lt_of_lt_of_le (by have := World.block_lt_of_cell? _ _ hx363_0; first | rwa [add_block] at this | exact this) GW362.out); replace hx363_0 := h_ HB hx363_0; replace hx363_1 := h_ HB hx363_1; replace hx363_2 := h_ HB hx363_2; replace hx363_3 := h_ HB hx363_3; replace hx363_4 := h_ HB hx363_4; replace hx363_5 := h_ HB hx363_5; replace hx363_0 := (cell_far (p := ⟨gb362, 0, none⟩) (by first | (rw [add_block]; exact hn363_0) | (show (Addr.add _ _).block ≠ _; rw [add_block]; exact hn363_0) | exact hn363_0) (.int .i64 t355)).trans hx363_0; replace hx363_1 := (cell_far (p := ⟨gb362, 0, none⟩) (by first | (rw [add_block]; exact hn363_0) | (show (Addr.add _ _).block ≠ _; rw [add_block]; exact hn363_0) | exact hn363_0) (.int .i64 t355)).trans hx363_1; replace hx363_2 := (cell_far (p := ⟨gb362, 0, none⟩) (by first | (rw [add_block]; exact hn363_0) | (show (Addr.add _ _).block ≠ _; rw [add_block]; exact hn363_0) | exact hn363_0) (.int .i64 t355)).trans hx363_2; replace hx363_3 := (cell_far (p := ⟨gb362, 0, none⟩) (by first | (rw [add_block]; exact hn363_0) | (show (Addr.add _ _).block ≠ _; rw [add_block]; exact hn363_0) | exact hn363_0) (.int .i64 t355)).trans hx363_3; replace hx363_4 := (cell_far (p := ⟨gb362, 0, none⟩) (by first | (rw [add_block]; exact hn363_0) | (show (Addr.add _ _).block ≠ _; rw [add_block]; exact hn363_0) | exact hn363_0) (.int .i64 t355)).trans hx363_4; replace hx363_5 := (cell_far (p := ⟨gb362, 0, none⟩) (by first | (rw [add_block]; exact hn363_0) | (show (Addr.add _ _).block ≠ _; rw [add_block]; exact hn363_0) | exact hn363_0) (.int .i64 t355)).trans hx363_5; replace hx363_0 := (cell_far (p := ⟨gb362, 1, none⟩) (by first | (rw [add_block]; exact hn363_1) | (show (Addr.add _ _).block ≠ _; rw [add_block]; exact hn363_1) | exact hn363_1) (.string t356)).trans hx363_0; replace hx363_1 := (cell_far (p := ⟨gb362, 1, none⟩) (by first | (rw [add_block]; exact hn363_1) | (show (Addr.add _ _).block ≠ _; rw [add_block]; exact hn363_1) | exact hn363_1) (.string t356)).trans hx363_1; replace hx363_2 := (cell_far (p := ⟨gb362, 1, none⟩) (by first | (rw [add_block]; exact hn363_1) | (show (Addr.add _ _).block ≠ _; rw [add_block]; exact hn363_1) | exact hn363_1) (.string t356)).trans hx363_2; replace hx363_3 := (cell_far (p := ⟨gb362, 1, none⟩) (by first | (rw [add_block]; exact hn363_1) | (show (Addr.add _ _).block ≠ _; rw [add_block]; exact hn363_1) | exact hn363_1) (.string t356)).trans hx363_3; replace hx363_4 := (cell_far (p := ⟨gb362, 1, none⟩) (by first | (rw [add_block]; exact hn363_1) | (show (Addr.add _ _).block ≠ _; rw [add_block]; exact hn363_1) | exact hn363_1) (.string t356)).trans hx363_4; replace hx363_5 := (cell_far (p := ⟨gb362, 1, none⟩) (by first | (rw [add_block]; exact hn363_1) | (show (Addr.add _ _).block ≠ _; rw [add_block]; exact hn363_1) | exact hn363_1) (.string t356)).trans hx363_5; replace hx363_0 := (cell_far (p := ⟨gb362, 2, none⟩) (by first | (rw [add_block]; exact hn363_2) | (show (Addr.add _ _).block ≠ _; rw [add_block]; exact hn363_2) | exact hn363_2) (.int .i64 t357)).trans hx363_0; replace hx363_1 := (cell_far (p := ⟨gb362, 2, none⟩) (by first | (rw [add_block]; exact hn363_2) | (show (Addr.add _ _).block ≠ _; rw [add_block]; exact hn363_2) | exact hn363_2) (.int .i64 t357)).trans hx363_1; replace hx363_2 := (cell_far (p := ⟨gb362, 2, none⟩) (by first | (rw [add_block]; exact hn363_2) | (show (Addr.add _ _).block ≠ _; rw [add_block]; exact hn363_2) | exact hn363_2) (.int .i64 t357)).trans hx363_2; replace hx363_3 := (cell_far (p := ⟨gb362, 2, none⟩) (by first | (rw [add_block]; exact hn363_2) | (show (Addr.add _ _).block ≠ _; rw [add_block]; exact hn363_2) | exact hn363_2) (.int .i64 t357)).trans hx363_3; replace hx363_4 := (cell_far (p := ⟨gb362, 2, none⟩) (by first | (rw [add_block]; exact hn363_2) | (show (Addr.add _ _).block ≠ _; rw [add_block]; exact hn363_2) | exact hn363_2) (.int .i64 t357)).trans hx363_4; replace hx363_5 := (cell_far (p := ⟨gb362, 2, none⟩) (by first | (rw [add_block]; exact hn363_2) | (show (Addr.add _ _).block ≠ _; rw [add_block]; exact hn363_2) | exact hn363_2) (.int .i64 t357)).trans hx363_5; replace hx363_0 := (cell_far (p := ⟨gb362, 3, none⟩) (by first | (rw [add_block]; exact hn363_3) | (show (Addr.add _ _).block ≠ _; rw [add_block]; exact hn363_3) | exact hn363_3) (.int .i64 t358)).trans hx363_0; replace hx363_1 := (cell_far (p := ⟨gb362, 3, none⟩) (by first | (rw [add_block]; exact hn363_3) | (show (Addr.add _ _).block ≠ _; rw [add_block]; exact hn363_3) | exact hn363_3) (.int .i64 t358)).trans hx363_1; replace hx363_2 := (cell_far (p := ⟨gb362, 3, none⟩) (by first | (rw [add_block]; exact hn363_3) | (show (Addr.add _ _).block ≠ _; rw [add_block]; exact hn363_3) | exact hn363_3) (.int .i64 t358)).trans hx363_2; replace hx363_3 := (cell_far (p := ⟨gb362, 3, none⟩) (by first | (rw [add_block]; exact hn363_3) | (show (Addr.add _ _).block ≠ _; rw [add_block]; exact hn363_3) | exact hn363_3) (.int .i64 t358)).trans hx363_3; replace hx363_4 := (cell_far (p := ⟨gb362, 3, none⟩) (by first | (rw [add_block]; exact hn363_3) | (show (Addr.add _ _).block ≠ _; rw [add_block]; exact hn363_3) | exact hn363_3) (.int .i64 t358)).trans hx363_4; replace hx363_5 := (cell_far (p := ⟨gb362, 3, none⟩) (by first | (rw [add_block]; exact hn363_3) | (show (Addr.add _ _).block ≠ _; rw [add_block]; exact hn363_3) | exact hn363_3) (.int .i64 t358)).trans hx363_5; replace hx363_0 := (cell_far (p := ⟨gb362, 4, none⟩) (by first | (rw [add_block]; exact hn363_4) | (show (Addr.add _ _).block ≠ _; rw [add_block]; exact hn363_4) | exact hn363_4) (.int .i64 t359)).trans hx363_0; replace hx363_1 := (cell_far (p := ⟨gb362, 4, none⟩) (by first | (rw [add_block]; exact hn363_4) | (show (Addr.add _ _).block ≠ _; rw [add_block]; exact hn363_4) | exact hn363_4) (.int .i64 t359)).trans hx363_1; replace hx363_2 := (cell_far (p := ⟨gb362, 4, none⟩) (by first | (rw [add_block]; exact hn363_4) | (show (Addr.add _ _).block ≠ _; rw [add_block]; exact hn363_4) | exact hn363_4) (.int .i64 t359)).trans hx363_2; replace hx363_3 := (cell_far (p := ⟨gb362, 4, none⟩) (by first | (rw [add_block]; exact hn363_4) | (show (Addr.add _ _).block ≠ _; rw [add_block]; exact hn363_4) | exact hn363_4) (.int .i64 t359)).trans hx363_3; replace hx363_4 := (cell_far (p := ⟨gb362, 4, none⟩) (by first | (rw [add_block]; exact hn363_4) | (show (Addr.add _ _).block ≠ _; rw [add_block]; exact hn363_4) | exact hn363_4) (.int .i64 t359)).trans hx363_4; replace hx363_5 := (cell_far (p := ⟨gb362, 4, none⟩) (by first | (rw [add_block]; exact hn363_4) | (show (Addr.add _ _).block ≠ _; rw [add_block]; exact hn363_4) | exact hn363_4) (.int .i64 t359)).trans hx363_5; replace hx363_0 := (cell_far (p := ⟨gb362, 5, none⟩) (by first | (rw [add_block]; exact hn363_5) | (show (Addr.add _ _).block ≠ _; rw [add_block]; exact hn363_5) | exact hn363_5) (.int .i64 t360)).trans hx363_0; replace hx363_1 := (cell_far (p := ⟨gb362, 5, none⟩) (by first | (rw [add_block]; exact hn363_5) | (show (Addr.add _ _).block ≠ _; rw [add_block]; exact hn363_5) | exact hn363_5) (.int .i64 t360)).trans hx363_1; replace hx363_2 := (cell_far (p := ⟨gb362, 5, none⟩) (by first | (rw [add_block]; exact hn363_5) | (show (Addr.add _ _).block ≠ _; rw [add_block]; exact hn363_5) | exact hn363_5) (.int .i64 t360)).trans hx363_2; replace hx363_3 := (cell_far (p := ⟨gb362, 5, none⟩) (by first | (rw [add_block]; exact hn363_5) | (show (Addr.add _ _).block ≠ _; rw [add_block]; exact hn363_5) | exact hn363_5) (.int .i64 t360)).trans hx363_3; replace hx363_4 := (cell_far (p := ⟨gb362, 5, none⟩) (by first | (rw [add_block]; exact hn363_5) | (show (Addr.add _ _).block ≠ _; rw [add_block]; exact hn363_5) | exact hn363_5) (.int .i64 t360)).trans hx363_4; replace hx363_5 := (cell_far (p := ⟨gb362, 5, none⟩) (by first | (rw [add_block]; exact hn363_5) | (show (Addr.add _ _).block ≠ _; rw [add_block]; exact hn363_5) | exact hn363_5) (.int .i64 t360)).trans hx363_5; clear hn363_0; clear hn363_1; clear hn363_2; clear hn363_3; clear hn363_4; clear hn363_5; replace p363 := eq_true p363; replace q363 := eq_true q363) | ((with_reducible refine gt_ 42 ?_); refine gd_ 24 Tryd.func42 (desc_Type.calls k ((rd_T50 l0 t358).f1) t364 t365 t366 _ A7.out) ?_; intro w13 hb; have BK354 := Aside0.mk (blk_below (g := gb354) (o := .cells #[.int .i64 0, .string (⟨#[]⟩ : ByteArray)] 34 (0, 0)) P_ hb); have BK362 := Aside0.mk (blk_below (g := gb362) (o := .cells #[.int .i64 t355, .string t356, .int .i64 t357, .int .i64 t358, .int .i64 t359, .int .i64 t360] 50 (0, 0)) P_ hb); have HB := bs_ hb; (try clear hb); (try clear hb2); (try clear hk); (try clear hi); obtain ⟨hcz14_0, hcz14_1, hfz14_0, hfz14_1⟩ := c2_ BK354.out))
    refine bodyPost_ret (results_ct rfl _ _ gb354 34 #[.int .i64 t364, .string t365] (0, 0) _ rfl P_ Tryd.underlying34 rfl (by kernel_rfl)) rfl ?_
    exact ⟨E_, B_⟩
   ·
    rw [if_neg c6] at H
    exact absurd H (by simp)
  ·
   rw [if_neg c5] at H
   exact absurd H (by simp)
 ·
  rw [if_neg c4] at H
  have c4b0 : (t361 == 0) = false := beq_eq_false_iff_ne.mpr c4
  have c4b1 : (t361 != 0) = true := bne_iff_ne.mpr c4
  simp only [Option.some.injEq, Prod.mk.injEq] at H
  obtain ⟨rfl, rfl, rfl⟩ := H
  go_enter Tryd.func25, Tryd.ntmps25
  go_wp2_with (first | ((with_reducible refine d_ 4 ?_); refine X_ 4 #[.int .i64 0, .string (⟨#[]⟩ : ByteArray)] 34 ?_; intro gb354 hg w15 hbox hb; have BK354 := Aside0.mk hbox; have GW354 := Aside0.mk (s_ hg); have GE354 := GW354; have HB := bs_ hb; clear hb hbox hg) | ((with_reducible refine gt_ 41 ?_); refine gd_ 11 Tryd.func41 (pool_right.calls k _ _ l0 a1 4 t355 t356 t357 t358 t359 t360 t361 _ (Y_ (Kd.C_below HR0.out HB.out)) HC0.out A3.out) ?_; intro w16 hb; have BK354 := kb_ BK354 hb; have HB := bs_ hb; (try clear hb); (try clear hb2); (try clear hk); (try clear hi)) | ((with_reducible refine d_ 6 ?_); refine X_ 6 #[.int .i64 0, .string (⟨#[]⟩ : ByteArray), .int .i64 0, .int .i64 0, .int .i64 0, .int .i64 0] 50 ?_; intro gb362 hg w17 hbox hb; have BK362 := Aside0.mk hbox; have GW362 := Aside0.mk (s_ hg); have GE362 := GW362; have NB354_362 := Aside0.mk (xx_ hg BK354); have BK354 := kb_ BK354 hb; have NB362_354 := Aside0.mk NB354_362.out.symm; have HB := bs_ hb; clear hb hbox hg; have hnb18 := NB362_354.out; have hnc18 := NB354_362.out; obtain ⟨hcz19_0, hcz19_1, hcz19_2, hcz19_3, hcz19_4, hcz19_5, hfz19_0, hfz19_1, hfz19_2, hfz19_3, hfz19_4, hfz19_5⟩ := c6_ BK362.out; obtain ⟨hcz20_0, hcz20_1, hfz20_0, hfz20_1⟩ := c2_ BK354.out))
  refine bodyPost_ret (results_ct rfl _ _ gb354 34 #[.int .i64 0, .string (⟨#[]⟩ : ByteArray)] (0, 0) _ rfl P_ Tryd.underlying34 rfl (by kernel_rfl)) rfl ?_
  exact ⟨E_, B_⟩
end Go.Proofs.YtldejfkplnejjaaDoor.P
