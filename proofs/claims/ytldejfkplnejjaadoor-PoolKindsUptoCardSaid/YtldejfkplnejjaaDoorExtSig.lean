/- desc.Sig's contract: what the print writes of its twin (the labels as a loop), with the scope's law for the two labels. -/
import Derived.Test.YtldejfkplnejjaaDoorP0
import Derived.Test.YtldejfkplnejjaaDoorP1
import Derived.Test.YtldejfkplnejjaaDoorP3
import Derived.Test.YtldejfkplnejjaaDoorExt
import Derived.Test.YtldejfkplnejjaaDoorShort
import Derived.Test.YtldejfkplnejjaaDoorShort2
import Derived.Scope
import Derived.WalkMore
import Derived.Deep.LoopGhost
namespace Go
def Exit.gotos (G : Nat → Act → World → Prop) (Q : Exit → Act → World → Prop) : Exit → Act → World → Prop
  | .goto l, a, w => G l a w
  | e, a, w => Q e a w
section
variable {P : Program} {Q : Exit → Act → World → Prop} {a : Act} {w : World} {G : Nat → Act → World → Prop}
@[go_sem] theorem Exit.gotos_normal : Exit.gotos G Q .normal a w = Q .normal a w := rfl
@[go_sem] theorem Exit.gotos_exit (id : Nat) : Exit.gotos G Q (.exit id) a w = Q (.exit id) a w := rfl
@[go_sem] theorem Exit.gotos_ret : Exit.gotos G Q .ret a w = Q .ret a w := rfl
@[go_sem] theorem Exit.gotos_panic (ch : List PanicEntry) : Exit.gotos G Q (.panic ch) a w = Q (.panic ch) a w := rfl
def TwinLaw (P : Program) (Q : Exit → Act → World → Prop) (G : Nat → Act → World → Prop) (M B R : Code) : Prop :=
  ∀ (I : Nat → Act → World → Prop) (n₀ : Nat) (a : Act) (w : World), I n₀ a w →
    (∀ n a w, I n a w → ∀ (J : Nat → Act → World → Prop) (G1 G0 : Act → World → Prop), (∀ k a' w', I k a' w' → J k a' w') → (∀ a' w', Handed J n a' w' → G1 a' w') → (∀ a' w', R.wp P (Exit.noGoto Q) a' w' → G0 a' w') →
      B.wp P (Exit.gotos (fun l a' w' => (l = 1 ∧ G1 a' w') ∨ (l = 0 ∧ G0 a' w')) Q) a w) → M.wp P (Exit.gotos G Q) a w
theorem noGoto_ret_of (h : Q .ret a w) : Exit.noGoto Q .ret a w := h
theorem gotos_ret_of (h : Q .ret a w) : Exit.gotos G Q .ret a w := h
theorem gotos_pick1 {G1 G0 : Act → World → Prop} (h : G1 a w) : Exit.gotos (fun l a' w' => (l = 1 ∧ G1 a' w') ∨ (l = 0 ∧ G0 a' w')) Q (.goto 1) a w := .inl ⟨rfl, h⟩
theorem gotos_pick0 {G1 G0 : Act → World → Prop} (h : G0 a w) : Exit.gotos (fun l a' w' => (l = 1 ∧ G1 a' w') ∨ (l = 0 ∧ G0 a' w')) Q (.goto 0) a w := .inr ⟨rfl, h⟩
theorem wp_scope_twin {c r1 r2 r3 r4 r5 B R : Code} (hc : c = r1.seq (r2.seq (r3.seq (r4.seq (r5.seq ((Code.label 1).seq B))))))
    (h1 : findLabel c 1 = some (.seq .skip B)) (h0 : findLabel c 0 = some (.seq .skip R))
    (first : ∀ (M : Code) (G : Nat → Act → World → Prop), TwinLaw P Q G M B R → (r1.seq (r2.seq (r3.seq (r4.seq (r5.seq M))))).wp P (Exit.gotos G Q) a w) : (Code.scope c).wp P Q a w := by
  let G : Nat → Act → World → Prop := fun l a w => ∃ rest, findLabel c l = some rest ∧ ∀ b k cs, ∃ e a' w', Q e a' w' ∧ Arrives P (lone (b.at a (.code rest :: .inScope c :: k)) cs w) b k cs e a' w'
  have run : ∀ (X : Code) a w, X.wp P (Exit.gotos G Q) a w → ∀ b k cs, ∃ e a' w', Q e a' w' ∧ Arrives P (lone (b.at a (.code X :: .inScope c :: k)) cs w) b k cs e a' w' := by
    intro X a w h b k cs
    obtain ⟨e, a₁, w₁, hq, harr⟩ := h b (.inScope c :: k) cs
    cases e with
    | normal => exact ⟨.normal, a₁, w₁, hq, Steps.trans harr (.one step_inScope)⟩
    | exit id => exact ⟨.exit id, a₁, w₁, hq, fun k' hk => harr k' (by simp [exitTo, hk])⟩
    | goto l' =>
      obtain ⟨rest, hf, hr⟩ := hq
      obtain ⟨e₂, a₂, w₂, hq₂, harr₂⟩ := hr b k cs
      have hg : gotoIn l' (.inScope c :: k) = some (.code rest :: .inScope c :: k) := by simp [gotoIn, hf]
      exact ⟨e₂, a₂, w₂, hq₂, .of_steps (harr _ hg) harr₂⟩
    | ret => exact ⟨_, a₁, w₁, hq, harr⟩
    | panic ch => exact ⟨_, a₁, w₁, hq, harr⟩
    | outgrown => exact ⟨_, a₁, w₁, hq, harr⟩
  have skip : ∀ (X : Code) a w, X.wp P (Exit.gotos G Q) a w → (Code.skip.seq X).wp P (Exit.gotos G Q) a w := fun X a w h => wp_seq (wp_skip h)
  have g0 : ∀ a w, R.wp P (Exit.noGoto Q) a w → G 0 a w := fun a w h => ⟨_, h0, run _ a w (skip R a w (wp_mono h (fun e a' w' q => by cases e <;> first | exact q | exact q.elim)))⟩
  have law : TwinLaw P Q G ((Code.label 1).seq B) B R := by
    intro I n₀ a w hI round
    have key : ∀ n a w, I n a w → B.wp P (Exit.gotos G Q) a w := by
      intro n
      induction n using Nat.strongRecOn with
      | _ n ih =>
        intro a w hI
        refine wp_mono (round n a w hI I (Handed I n) (fun a w => R.wp P (Exit.noGoto Q) a w) (fun _ _ _ h => h) (fun _ _ h => h) (fun _ _ h => h)) ?_
        intro e a' w' q
        cases e with
        | goto l =>
          rcases q with ⟨rfl, n', hlt, hI'⟩ | ⟨rfl, hr⟩
          · exact ⟨_, h1, run _ a' w' (skip B a' w' (ih n' hlt a' w' hI'))⟩
          · exact g0 a' w' hr
        | normal => exact q
        | exit id => exact q
        | ret => exact q
        | panic ch => exact q
        | outgrown => exact q
    exact wp_seq (wp_label (key n₀ a w hI))
  have hfin := first _ G law
  rw [← hc] at hfin
  intro b k cs
  obtain ⟨e, a', w', hq, harr⟩ := run c a w hfin b k cs
  refine ⟨e, a', w', hq, ?_⟩
  cases e with
  | normal => exact .head step_scope harr
  | exit id => exact fun k' hk => .head step_scope (harr k' hk)
  | goto l => exact fun k' hk => .head step_scope (harr k' hk)
  | ret => exact .of_steps (.one step_scope) harr
  | panic ch => exact .of_steps (.one step_scope) harr
  | outgrown => exact .of_steps (.one step_scope) harr
end
end Go
namespace Go.Proofs.YtldejfkplnejjaaDoor.P
open Go.RowKit Go.Proofs.YtldejfkplnejjaaDoorW.PrintWords Go.Proofs.YtldejfkplnejjaaDoorW.PrintLast Go.Proofs.YtldejfkplnejjaaDoorW.PrintMore
attribute [local go_sem] max2_int min2_int max_two min_two max_three min_three max_four min_four   -- for this text's walks alone
set_option linter.unusedVariables false
set_option linter.unusedSimpArgs false
mutual
def desc_Sig.l0 : Nat → ByteArray → List (S34) → Bool → Int → ByteArray → Option ((List (S34)) × Bool × Int × ByteArray × Int)
  | 0, _, _, _, _, _ => none
  | k + 1, x0, x138000, x138001, x138002, x138003 => (strings_HasPrefix.f x0 (⟨#[41]⟩ : ByteArray)).bind fun t140 => (if t140 = true then (if x0.toList = ([41, 86] : List UInt8) then (if (x138000.length : Int) > 16 then (some (([] : List (S34)), false, 0, (⟨#[]⟩ : ByteArray), 4)) else (some (x138000, true, x138002, x138003, 0))) else (if 1 ≤ (x0.size : Int) then ((desc_first.f k (x0.extract 1 x0.size)).bind fun bt148 => (if bt148.2.2.2 = true then (desc_Sig.j1 k (bt148.2.2.1.toList != ([] : List UInt8)) x138000 x138001 bt148.1 bt148.2.1) else (desc_Sig.j1 k true x138000 x138001 bt148.1 bt148.2.1))) else (none))) else ((desc_first.f k x0).bind fun bt141 => (if bt141.2.2.2 = true then (if x138000.length < 5864062014805 then (desc_Sig.l0 k bt141.2.2.1 (x138000 ++ [(⟨bt141.1, bt141.2.1⟩ : S34)]) x138001 x138002 x138003) else (none)) else (some (([] : List (S34)), false, 0, (⟨#[]⟩ : ByteArray), 15)))))
def desc_Sig.j1 : Nat → Bool → List (S34) → Bool → Int → ByteArray → Option ((List (S34)) × Bool × Int × ByteArray × Int)
  | 0, _, _, _, _, _ => none
  | k + 1, x47, x138000, x138001, x138002, x138003 => if x47 = true then (some (([] : List (S34)), false, 0, (⟨#[]⟩ : ByteArray), 15)) else (if (x138000.length : Int) > 16 then (some (([] : List (S34)), false, 0, (⟨#[]⟩ : ByteArray), 4)) else (some (x138000, x138001, x138002, x138003, 0)))
end
def desc_Sig.f (k : Nat) (a0 : ByteArray) : Option ((List (S34)) × Bool × Int × ByteArray × Int) := (strings_HasPrefix.f a0 (⟨#[40]⟩ : ByteArray)).bind fun t139 => (if t139 = true then (if 1 ≤ (a0.size : Int) then (desc_Sig.l0 k (a0.extract 1 a0.size) ([] : List (S34)) false 0 (⟨#[]⟩ : ByteArray)) else (none)) else (some (([] : List (S34)), false, 0, (⟨#[]⟩ : ByteArray), 15)))
set_option maxHeartbeats 8000000 in
set_option maxRecDepth 100000 in
theorem desc_Sig.calls (k : Nat) (a0 : ByteArray) (r1 : List (S34)) (r2 : Bool) (r3 : Int) (r4 : ByteArray) (r5 : Int) (w : World) (h : desc_Sig.f k a0 = some (r1, r2, r3, r4, r5)) :
    Calls Tryd.prog 43 #[.string a0] w fun e w' => ∃ v0_ : Value, e = .returned (.tuple #[.agg #[v0_, .bool r2, .int .i64 r3, .string r4], .int .i64 r5]) ∧ Kd.R k34 34 w' w.heap.size (fun _ => True) v0_ r1 ∧ Below w.heap.size w w' := by
  have hu39 := Tryd.underlying39
  have hu34 := Tryd.underlying34
  have HB := Aside0.mk (Below.refl w.heap.size w)
  have H : ((strings_HasPrefix.f a0 (⟨#[40]⟩ : ByteArray)).bind fun t139 => (if t139 = true then (if 1 ≤ (a0.size : Int) then (desc_Sig.l0 k (a0.extract 1 a0.size) ([] : List (S34)) false 0 (⟨#[]⟩ : ByteArray)) else (none)) else (some (([] : List (S34)), false, 0, (⟨#[]⟩ : ByteArray), 15)))) = some (r1, r2, r3, r4, r5) := h
  clear h
  replace H := Option.bind_eq_some_iff.mp H
  obtain ⟨t139, A20, H⟩ := H
  replace H : (if t139 = true then (if 1 ≤ (a0.size : Int) then (desc_Sig.l0 k (a0.extract 1 a0.size) ([] : List (S34)) false 0 (⟨#[]⟩ : ByteArray)) else (none)) else (some (([] : List (S34)), false, 0, (⟨#[]⟩ : ByteArray), 15))) = some (r1, r2, r3, r4, r5) := H
  have A2 := Aside0.mk A20
  clear A20
  by_cases c3 : t139 = true
  · subst c3
    have H1 : (if 1 ≤ (a0.size : Int) then (desc_Sig.l0 k (a0.extract 1 a0.size) ([] : List (S34)) false 0 (⟨#[]⟩ : ByteArray)) else (none)) = some (r1, r2, r3, r4, r5) := by rw [if_pos rfl] at H; exact H
    clear H
    have H := H1
    clear H1
    by_cases c4 : 1 ≤ (a0.size : Int)
    · rw [if_pos c4] at H
      have c4b0 := eq_true c4
      have c4b1 : decide (1 ≤ (a0.size : Int)) = true := decide_eq_true c4
      clear c4
      have H' := Aside0.mk H
      clear H
      go_enter Tryd.func43, Tryd.ntmps43
      go_wp2_with (first | ((with_reducible refine d_ 2 ?_); refine X_ 2 #[.slice none 0 0, .bool false, .int .i64 0, .string (⟨#[]⟩ : ByteArray)] 39 ?_; intro gb136 hg w5 hbox hb; have BK136 := Aside0.mk hbox; have GW136 := Aside0.mk (s_ hg); have GE136 := GW136; have HB := bs_ hb; clear hb hbox hg) | ((with_reducible refine d_ 4 ?_); refine X_ 4 #[.slice none 0 0, .bool false, .int .i64 0, .string (⟨#[]⟩ : ByteArray)] 39 ?_; intro gb137 hg w6 hbox hb; have BK137 := Aside0.mk hbox; have GW137 := Aside0.mk (s_ hg); have GE137 := GW137; have NB136_137 := Aside0.mk (x_ hg (g := gb136) (o := .cells #[.slice none 0 0, .bool false, .int .i64 0, .string (⟨#[]⟩ : ByteArray)] 39 (0, 0)) P_); have BK136 := Aside0.mk (blk_below (g := gb136) (o := .cells #[.slice none 0 0, .bool false, .int .i64 0, .string (⟨#[]⟩ : ByteArray)] 39 (0, 0)) P_ hb); have NB137_136 := Aside0.mk NB136_137.out.symm; have HB := bs_ hb; clear hb hbox hg) | ((with_reducible refine d_ 5 ?_); refine X_ 5 #[.int .i64 0, .string (⟨#[]⟩ : ByteArray)] 34 ?_; intro gb138 hg w7 hbox hb; have BK138 := Aside0.mk hbox; have GW138 := Aside0.mk (s_ hg); have GE138 := GW138; have NB136_138 := Aside0.mk (x_ hg (g := gb136) (o := .cells #[.slice none 0 0, .bool false, .int .i64 0, .string (⟨#[]⟩ : ByteArray)] 39 (0, 0)) P_); have BK136 := Aside0.mk (blk_below (g := gb136) (o := .cells #[.slice none 0 0, .bool false, .int .i64 0, .string (⟨#[]⟩ : ByteArray)] 39 (0, 0)) P_ hb); have NB138_136 := Aside0.mk NB136_138.out.symm; have NB137_138 := Aside0.mk (x_ hg (g := gb137) (o := .cells #[.slice none 0 0, .bool false, .int .i64 0, .string (⟨#[]⟩ : ByteArray)] 39 (0, 0)) P_); have BK137 := Aside0.mk (blk_below (g := gb137) (o := .cells #[.slice none 0 0, .bool false, .int .i64 0, .string (⟨#[]⟩ : ByteArray)] 39 (0, 0)) P_ hb); have NB138_137 := Aside0.mk NB137_138.out.symm; have HB := bs_ hb; clear hb hbox hg) | ((with_reducible refine gt_ 82 ?_); refine gd_ 8 Tryd.func82 (strings_HasPrefix.calls a0 (⟨#[40]⟩ : ByteArray) true _ A2.out) ?_; rintro w' ⟨nd, rfl⟩))
      refine Go.wp_scope_twin rfl rfl rfl ?_; intro M_ G_ hM_
      go_wp2_with (first | ((with_reducible refine d_ 2 ?_); refine X_ 2 #[.slice none 0 0, .bool false, .int .i64 0, .string (⟨#[]⟩ : ByteArray)] 39 ?_; intro gb136 hg w5 hbox hb; have BK136 := Aside0.mk hbox; have GW136 := Aside0.mk (s_ hg); have GE136 := GW136; have HB := bs_ hb; clear hb hbox hg) | ((with_reducible refine d_ 4 ?_); refine X_ 4 #[.slice none 0 0, .bool false, .int .i64 0, .string (⟨#[]⟩ : ByteArray)] 39 ?_; intro gb137 hg w6 hbox hb; have BK137 := Aside0.mk hbox; have GW137 := Aside0.mk (s_ hg); have GE137 := GW137; have NB136_137 := Aside0.mk (x_ hg (g := gb136) (o := .cells #[.slice none 0 0, .bool false, .int .i64 0, .string (⟨#[]⟩ : ByteArray)] 39 (0, 0)) P_); have BK136 := Aside0.mk (blk_below (g := gb136) (o := .cells #[.slice none 0 0, .bool false, .int .i64 0, .string (⟨#[]⟩ : ByteArray)] 39 (0, 0)) P_ hb); have NB137_136 := Aside0.mk NB136_137.out.symm; have HB := bs_ hb; clear hb hbox hg) | ((with_reducible refine d_ 5 ?_); refine X_ 5 #[.int .i64 0, .string (⟨#[]⟩ : ByteArray)] 34 ?_; intro gb138 hg w7 hbox hb; have BK138 := Aside0.mk hbox; have GW138 := Aside0.mk (s_ hg); have GE138 := GW138; have NB136_138 := Aside0.mk (x_ hg (g := gb136) (o := .cells #[.slice none 0 0, .bool false, .int .i64 0, .string (⟨#[]⟩ : ByteArray)] 39 (0, 0)) P_); have BK136 := Aside0.mk (blk_below (g := gb136) (o := .cells #[.slice none 0 0, .bool false, .int .i64 0, .string (⟨#[]⟩ : ByteArray)] 39 (0, 0)) P_ hb); have NB138_136 := Aside0.mk NB136_138.out.symm; have NB137_138 := Aside0.mk (x_ hg (g := gb137) (o := .cells #[.slice none 0 0, .bool false, .int .i64 0, .string (⟨#[]⟩ : ByteArray)] 39 (0, 0)) P_); have BK137 := Aside0.mk (blk_below (g := gb137) (o := .cells #[.slice none 0 0, .bool false, .int .i64 0, .string (⟨#[]⟩ : ByteArray)] 39 (0, 0)) P_ hb); have NB138_137 := Aside0.mk NB137_138.out.symm; have HB := bs_ hb; clear hb hbox hg) | ((with_reducible refine gt_ 82 ?_); refine gd_ 8 Tryd.func82 (strings_HasPrefix.calls a0 (⟨#[40]⟩ : ByteArray) true _ A2.out) ?_; rintro w' ⟨nd, rfl⟩))
      refine hM_ (fun kq a_ w' => ∃ u0 u1 u3 u6 u7 u8 u9 u10 u11 u12 u13 u14 u15 u16 u17 u18 u19 u20 u21 u22 u23 u24 u25 u26 u27 u28 u29 u30 u31 u32 u33 u34 u35 u36 u37 u38 u39 u40 u41 u42 u43 u44 u45 u46 u47 u48 u49 u50 u51 u52 u53 u54, (∃ (x0_1 : ByteArray) (x137001_1 : Bool) (x137002_1 : Int) (x137003_1 : ByteArray) (x138000_1 : List (S34)) (x139000_1 : Int) (x139001_1 : ByteArray) (u138000 : Value), u0 = .string x0_1 ∧ Aside0 (desc_Sig.l0 kq x0_1 x138000_1 false 0 (⟨#[]⟩ : ByteArray) = some (r1, r2, r3, r4, r5)) ∧ Aside0 (kq ≤ k) ∧ Aside0 (Kd.R k34 34 w' w.heap.size (fun k_ => k_ ≠ gb138) u138000 x138000_1) ∧ Aside0 (w'.heap[gb136]? = some (.cells #[(.slice none 0 0), .bool x137001_1, .int .i64 x137002_1, .string x137003_1] 39 (0, 0))) ∧ Aside0 (w'.heap[gb137]? = some (.cells #[u138000, .bool false, .int .i64 0, .string (⟨#[]⟩ : ByteArray)] 39 (0, 0))) ∧ Aside0 (w'.heap[gb138]? = some (.cells #[.int .i64 x139000_1, .string x139001_1] 34 (0, 0))) ∧ Aside0 (Below w.heap.size w w')) ∧ a_ = { tmps := #[u0, u1, .pointer (some ⟨gb136, 0, none⟩), u3, .pointer (some ⟨gb137, 0, none⟩), .pointer (some ⟨gb138, 0, none⟩), u6, u7, u8, u9, u10, u11, u12, u13, u14, u15, u16, u17, u18, u19, u20, u21, u22, u23, u24, u25, u26, u27, u28, u29, u30, u31, u32, u33, u34, u35, u36, u37, u38, u39, u40, u41, u42, u43, u44, u45, u46, u47, u48, u49, u50, u51, u52, u53, u54], defers := [] }) k _ _ ?_ ?_
      focus ((repeat apply Exists.intro); refine ⟨?atStart, rfl⟩)
      case atStart => exact ⟨(a0.extract 1 a0.size), (false), (0), ((⟨#[]⟩ : ByteArray)), (([] : List (S34))), (0), ((⟨#[]⟩ : ByteArray)), (.slice none 0 0), R_, H', ⟨Nat.le_refl _⟩, ⟨by first | exact Kd.R_nil _ _ _ _ _ | exact Kd.N_nil _ _ _ _ _ | exact Kd.V_nil _ _ _ _ _ | exact Kd.Q_nil _ _ _ _ _ | exact Kd.S_nil _ _ _ _ _⟩, ⟨P_⟩, ⟨P_⟩, ⟨P_⟩, ⟨B_⟩⟩
      focus
        intro gk _ wr hinv
        obtain ⟨u0, u1, u3, u6, u7, u8, u9, u10, u11, u12, u13, u14, u15, u16, u17, u18, u19, u20, u21, u22, u23, u24, u25, u26, u27, u28, u29, u30, u31, u32, u33, u34, u35, u36, u37, u38, u39, u40, u41, u42, u43, u44, u45, u46, u47, u48, u49, u50, u51, u52, u53, u54, hrel, ha⟩ := hinv
        subst ha
        intro _ _ _ _ _ _
        clear H'
        try clear p2
        try clear c3
        try clear c4
        try clear c4b0
        try clear c4b1
        obtain ⟨x0_1, x137001_1, x137002_1, x137003_1, x138000_1, x139000_1, x139001_1, u138000, rfl, HA, HK1, HO_138000, BK136, BK137, BK138, HB⟩ := hrel
        cases gk with
        | zero => exact absurd HA.out (by simp [desc_Sig.l0])
        | succ k1 =>
          have H := HA.out
          clear HA
          simp only [desc_Sig.l0] at H
          replace H := Option.bind_eq_some_iff.mp H
          obtain ⟨t140, A80, H⟩ := H
          replace H : (if t140 = true then (if x0_1.toList = ([41, 86] : List UInt8) then (if (x138000_1.length : Int) > 16 then (some (([] : List (S34)), false, 0, (⟨#[]⟩ : ByteArray), 4)) else (some (x138000_1, true, 0, (⟨#[]⟩ : ByteArray), 0))) else (if 1 ≤ (x0_1.size : Int) then ((desc_first.f k1 (x0_1.extract 1 x0_1.size)).bind fun bt148 => (if bt148.2.2.2 = true then (desc_Sig.j1 k1 (bt148.2.2.1.toList != ([] : List UInt8)) x138000_1 false bt148.1 bt148.2.1) else (desc_Sig.j1 k1 true x138000_1 false bt148.1 bt148.2.1))) else (none))) else ((desc_first.f k1 x0_1).bind fun bt141 => (if bt141.2.2.2 = true then (if x138000_1.length < 5864062014805 then (desc_Sig.l0 k1 bt141.2.2.1 (x138000_1 ++ [(⟨bt141.1, bt141.2.1⟩ : S34)]) false 0 (⟨#[]⟩ : ByteArray)) else (none)) else (some (([] : List (S34)), false, 0, (⟨#[]⟩ : ByteArray), 15))))) = some (r1, r2, r3, r4, r5) := H
          have A8 := Aside0.mk A80
          clear A80
          by_cases c9 : t140 = true
          · subst c9
            have H1 : (if x0_1.toList = ([41, 86] : List UInt8) then (if (x138000_1.length : Int) > 16 then (some (([] : List (S34)), false, 0, (⟨#[]⟩ : ByteArray), 4)) else (some (x138000_1, true, 0, (⟨#[]⟩ : ByteArray), 0))) else (if 1 ≤ (x0_1.size : Int) then ((desc_first.f k1 (x0_1.extract 1 x0_1.size)).bind fun bt148 => (if bt148.2.2.2 = true then (desc_Sig.j1 k1 (bt148.2.2.1.toList != ([] : List UInt8)) x138000_1 false bt148.1 bt148.2.1) else (desc_Sig.j1 k1 true x138000_1 false bt148.1 bt148.2.1))) else (none))) = some (r1, r2, r3, r4, r5) := by rw [if_pos rfl] at H; exact H
            clear H
            have H := H1
            clear H1
            by_cases c10 : x0_1.toList = ([41, 86] : List UInt8)
            · rw [if_pos c10] at H
              have c10b0 : (x0_1.toList == ([41, 86] : List UInt8)) = true := beq_iff_eq.mpr c10
              have c10b1 : (x0_1.toList != ([41, 86] : List UInt8)) = false := bne_eq_false_iff_eq.mpr c10
              clear c10
              by_cases c11 : (x138000_1.length : Int) > 16
              · rw [if_pos c11] at H
                have c11b0 : decide (16 < (x138000_1.length : Int)) = true := decide_eq_true c11
                have c11b1 : decide (16 < x138000_1.length) = true := decide_eq_true (by omega)
                clear c11
                simp only [Option.some.injEq, Prod.mk.injEq] at H
                obtain ⟨rfl, rfl, rfl, rfl, rfl⟩ := H
                go_wp2_with (first | ((with_reducible refine gt_ 82 ?_); refine gd_ 15 Tryd.func82 (strings_HasPrefix.calls x0_1 (⟨#[41]⟩ : ByteArray) true _ A8.out) ?_; rintro w' ⟨nd, rfl⟩; (try (rw [drewN_self wr]; generalize hq_ : World.drewN wr _ = wr; have n0_ : Aside0 (Kd.R k34 34 wr w.heap.size (fun k_ => k_ ≠ gb138) u138000 x138000_1) := ⟨by rw [← hq_]; exact (Q_ HO_138000.out)⟩; have n1_ : Aside0 (wr.heap[gb136]? = some (.cells #[.slice none 0 0, .bool x137001_1, .int .i64 x137002_1, .string x137003_1] 39 (0, 0))) := ⟨by rw [← hq_]; exact P_⟩; have n2_ : Aside0 (wr.heap[gb137]? = some (.cells #[u138000, .bool false, .int .i64 0, .string (⟨#[]⟩ : ByteArray)] 39 (0, 0))) := ⟨by rw [← hq_]; exact P_⟩; have n3_ : Aside0 (wr.heap[gb138]? = some (.cells #[.int .i64 x139000_1, .string x139001_1] 34 (0, 0))) := ⟨by rw [← hq_]; exact P_⟩; have n4_ : Aside0 (Below w.heap.size w wr) := ⟨by rw [← hq_]; exact B_⟩; clear HO_138000 BK136 BK137 BK138 HB hq_; have HO_138000 := n0_; have BK136 := n1_; have BK137 := n2_; have BK138 := n3_; have HB := n4_; clear n0_ n1_ n2_ n3_ n4_)); have hnb12 := NB137_136.out; have hnc12 := NB136_137.out; have hnb13 := NB137_138.out; have hnc13 := NB138_137.out; have hcz14_0 : wr.cell? ⟨gb137, 0, none⟩ = some (u138000) := (blk_cell BK137.out 0).trans rfl; have hcz14_1 : wr.cell? ⟨gb137, 1, none⟩ = some (.bool false) := (blk_cell BK137.out 1).trans rfl; have hcz14_2 : wr.cell? ⟨gb137, 2, none⟩ = some (.int .i64 0) := (blk_cell BK137.out 2).trans rfl; have hcz14_3 : wr.cell? ⟨gb137, 3, none⟩ = some (.string (⟨#[]⟩ : ByteArray)) := (blk_cell BK137.out 3).trans rfl; have hfz14_0 := blk_frozen BK137.out 0; have hfz14_1 := blk_frozen BK137.out 1; have hfz14_2 := blk_frozen BK137.out 2; have hfz14_3 := blk_frozen BK137.out 3; obtain ⟨Ao15, co15, eo15⟩ := Kd.R_slice HO_138000.out; subst eo15; have hnb16 := NB136_138.out; have hnc16 := NB138_136.out; have hcz17_0 : wr.cell? ⟨gb136, 0, none⟩ = some (.slice none 0 0) := (blk_cell BK136.out 0).trans rfl; have hcz17_1 : wr.cell? ⟨gb136, 1, none⟩ = some (.bool x137001_1) := (blk_cell BK136.out 1).trans rfl; have hcz17_2 : wr.cell? ⟨gb136, 2, none⟩ = some (.int .i64 x137002_1) := (blk_cell BK136.out 2).trans rfl; have hcz17_3 : wr.cell? ⟨gb136, 3, none⟩ = some (.string x137003_1) := (blk_cell BK136.out 3).trans rfl; have hfz17_0 := blk_frozen BK136.out 0; have hfz17_1 := blk_frozen BK136.out 1; have hfz17_2 := blk_frozen BK136.out 2; have hfz17_3 := blk_frozen BK136.out 3))
                refine wp_goto ?_; (try dsimp only [Exit.then, Exit.inBlock]); refine Go.gotos_pick0 ?_
                go_wp2_with (first | ((with_reducible refine gt_ 82 ?_); refine gd_ 15 Tryd.func82 (strings_HasPrefix.calls x0_1 (⟨#[41]⟩ : ByteArray) true _ A8.out) ?_; rintro w' ⟨nd, rfl⟩; (try (rw [drewN_self wr]; generalize hq_ : World.drewN wr _ = wr; have n0_ : Aside0 (Kd.R k34 34 wr w.heap.size (fun k_ => k_ ≠ gb138) u138000 x138000_1) := ⟨by rw [← hq_]; exact (Q_ HO_138000.out)⟩; have n1_ : Aside0 (wr.heap[gb136]? = some (.cells #[.slice none 0 0, .bool x137001_1, .int .i64 x137002_1, .string x137003_1] 39 (0, 0))) := ⟨by rw [← hq_]; exact P_⟩; have n2_ : Aside0 (wr.heap[gb137]? = some (.cells #[u138000, .bool false, .int .i64 0, .string (⟨#[]⟩ : ByteArray)] 39 (0, 0))) := ⟨by rw [← hq_]; exact P_⟩; have n3_ : Aside0 (wr.heap[gb138]? = some (.cells #[.int .i64 x139000_1, .string x139001_1] 34 (0, 0))) := ⟨by rw [← hq_]; exact P_⟩; have n4_ : Aside0 (Below w.heap.size w wr) := ⟨by rw [← hq_]; exact B_⟩; clear HO_138000 BK136 BK137 BK138 HB hq_; have HO_138000 := n0_; have BK136 := n1_; have BK137 := n2_; have BK138 := n3_; have HB := n4_; clear n0_ n1_ n2_ n3_ n4_)); have hnb12 := NB137_136.out; have hnc12 := NB136_137.out; have hnb13 := NB137_138.out; have hnc13 := NB138_137.out; have hcz14_0 : wr.cell? ⟨gb137, 0, none⟩ = some (u138000) := (blk_cell BK137.out 0).trans rfl; have hcz14_1 : wr.cell? ⟨gb137, 1, none⟩ = some (.bool false) := (blk_cell BK137.out 1).trans rfl; have hcz14_2 : wr.cell? ⟨gb137, 2, none⟩ = some (.int .i64 0) := (blk_cell BK137.out 2).trans rfl; have hcz14_3 : wr.cell? ⟨gb137, 3, none⟩ = some (.string (⟨#[]⟩ : ByteArray)) := (blk_cell BK137.out 3).trans rfl; have hfz14_0 := blk_frozen BK137.out 0; have hfz14_1 := blk_frozen BK137.out 1; have hfz14_2 := blk_frozen BK137.out 2; have hfz14_3 := blk_frozen BK137.out 3; obtain ⟨Ao15, co15, eo15⟩ := Kd.R_slice HO_138000.out; subst eo15; have hnb16 := NB136_138.out; have hnc16 := NB138_136.out; have hcz17_0 : wr.cell? ⟨gb136, 0, none⟩ = some (.slice none 0 0) := (blk_cell BK136.out 0).trans rfl; have hcz17_1 : wr.cell? ⟨gb136, 1, none⟩ = some (.bool x137001_1) := (blk_cell BK136.out 1).trans rfl; have hcz17_2 : wr.cell? ⟨gb136, 2, none⟩ = some (.int .i64 x137002_1) := (blk_cell BK136.out 2).trans rfl; have hcz17_3 : wr.cell? ⟨gb136, 3, none⟩ = some (.string x137003_1) := (blk_cell BK136.out 3).trans rfl; have hfz17_0 := blk_frozen BK136.out 0; have hfz17_1 := blk_frozen BK136.out 1; have hfz17_2 := blk_frozen BK136.out 2; have hfz17_3 := blk_frozen BK136.out 3))
                (first | (with_reducible refine Go.noGoto_ret_of ?_) | (with_reducible refine Go.gotos_ret_of ?_) | skip)
                refine bodyPost_ret (results_ct rfl _ _ gb136 39 #[.slice none 0 0, .bool false, .int .i64 0, .string (⟨#[]⟩ : ByteArray)] (0, 0) _ rfl P_ Tryd.underlying39 rfl (by kernel_rfl)) rfl ?_
                exact ⟨_, E_, by first | exact Kd.R_nil _ _ _ _ _ | exact Kd.N_nil _ _ _ _ _ | exact Kd.V_nil _ _ _ _ _ | exact Kd.Q_nil _ _ _ _ _ | exact Kd.S_nil _ _ _ _ _, B_⟩
              · rw [if_neg c11] at H
                have c11b0 : decide (16 < (x138000_1.length : Int)) = false := decide_eq_false c11
                have c11b1 : decide (16 < x138000_1.length) = false := decide_eq_false (by omega)
                clear c11
                simp only [Option.some.injEq, Prod.mk.injEq] at H
                obtain ⟨rfl, rfl, rfl, rfl, rfl⟩ := H
                go_wp2_with (first | ((with_reducible refine gt_ 82 ?_); refine gd_ 15 Tryd.func82 (strings_HasPrefix.calls x0_1 (⟨#[41]⟩ : ByteArray) true _ A8.out) ?_; rintro w' ⟨nd, rfl⟩; (try (rw [drewN_self wr]; generalize hq_ : World.drewN wr _ = wr; have n0_ : Aside0 (Kd.R k34 34 wr w.heap.size (fun k_ => k_ ≠ gb138) u138000 x138000_1) := ⟨by rw [← hq_]; exact (Q_ HO_138000.out)⟩; have n1_ : Aside0 (wr.heap[gb136]? = some (.cells #[.slice none 0 0, .bool x137001_1, .int .i64 x137002_1, .string x137003_1] 39 (0, 0))) := ⟨by rw [← hq_]; exact P_⟩; have n2_ : Aside0 (wr.heap[gb137]? = some (.cells #[u138000, .bool false, .int .i64 0, .string (⟨#[]⟩ : ByteArray)] 39 (0, 0))) := ⟨by rw [← hq_]; exact P_⟩; have n3_ : Aside0 (wr.heap[gb138]? = some (.cells #[.int .i64 x139000_1, .string x139001_1] 34 (0, 0))) := ⟨by rw [← hq_]; exact P_⟩; have n4_ : Aside0 (Below w.heap.size w wr) := ⟨by rw [← hq_]; exact B_⟩; clear HO_138000 BK136 BK137 BK138 HB hq_; have HO_138000 := n0_; have BK136 := n1_; have BK137 := n2_; have BK138 := n3_; have HB := n4_; clear n0_ n1_ n2_ n3_ n4_)); have hnb18 := NB137_136.out; have hnc18 := NB136_137.out; have hnb19 := NB137_138.out; have hnc19 := NB138_137.out; have hcz20_0 : wr.cell? ⟨gb137, 0, none⟩ = some (u138000) := (blk_cell BK137.out 0).trans rfl; have hcz20_1 : wr.cell? ⟨gb137, 1, none⟩ = some (.bool false) := (blk_cell BK137.out 1).trans rfl; have hcz20_2 : wr.cell? ⟨gb137, 2, none⟩ = some (.int .i64 0) := (blk_cell BK137.out 2).trans rfl; have hcz20_3 : wr.cell? ⟨gb137, 3, none⟩ = some (.string (⟨#[]⟩ : ByteArray)) := (blk_cell BK137.out 3).trans rfl; have hfz20_0 := blk_frozen BK137.out 0; have hfz20_1 := blk_frozen BK137.out 1; have hfz20_2 := blk_frozen BK137.out 2; have hfz20_3 := blk_frozen BK137.out 3; obtain ⟨Ao21, co21, eo21⟩ := Kd.R_slice HO_138000.out; subst eo21; have hnb22 := NB136_138.out; have hnc22 := NB138_136.out; have hcz23_0 : wr.cell? ⟨gb136, 0, none⟩ = some (.slice none 0 0) := (blk_cell BK136.out 0).trans rfl; have hcz23_1 : wr.cell? ⟨gb136, 1, none⟩ = some (.bool x137001_1) := (blk_cell BK136.out 1).trans rfl; have hcz23_2 : wr.cell? ⟨gb136, 2, none⟩ = some (.int .i64 x137002_1) := (blk_cell BK136.out 2).trans rfl; have hcz23_3 : wr.cell? ⟨gb136, 3, none⟩ = some (.string x137003_1) := (blk_cell BK136.out 3).trans rfl; have hfz23_0 := blk_frozen BK136.out 0; have hfz23_1 := blk_frozen BK136.out 1; have hfz23_2 := blk_frozen BK136.out 2; have hfz23_3 := blk_frozen BK136.out 3))
                refine wp_goto ?_; (try dsimp only [Exit.then, Exit.inBlock]); refine Go.gotos_pick0 ?_
                go_wp2_with (first | ((with_reducible refine gt_ 82 ?_); refine gd_ 15 Tryd.func82 (strings_HasPrefix.calls x0_1 (⟨#[41]⟩ : ByteArray) true _ A8.out) ?_; rintro w' ⟨nd, rfl⟩; (try (rw [drewN_self wr]; generalize hq_ : World.drewN wr _ = wr; have n0_ : Aside0 (Kd.R k34 34 wr w.heap.size (fun k_ => k_ ≠ gb138) u138000 x138000_1) := ⟨by rw [← hq_]; exact (Q_ HO_138000.out)⟩; have n1_ : Aside0 (wr.heap[gb136]? = some (.cells #[.slice none 0 0, .bool x137001_1, .int .i64 x137002_1, .string x137003_1] 39 (0, 0))) := ⟨by rw [← hq_]; exact P_⟩; have n2_ : Aside0 (wr.heap[gb137]? = some (.cells #[u138000, .bool false, .int .i64 0, .string (⟨#[]⟩ : ByteArray)] 39 (0, 0))) := ⟨by rw [← hq_]; exact P_⟩; have n3_ : Aside0 (wr.heap[gb138]? = some (.cells #[.int .i64 x139000_1, .string x139001_1] 34 (0, 0))) := ⟨by rw [← hq_]; exact P_⟩; have n4_ : Aside0 (Below w.heap.size w wr) := ⟨by rw [← hq_]; exact B_⟩; clear HO_138000 BK136 BK137 BK138 HB hq_; have HO_138000 := n0_; have BK136 := n1_; have BK137 := n2_; have BK138 := n3_; have HB := n4_; clear n0_ n1_ n2_ n3_ n4_)); have hnb18 := NB137_136.out; have hnc18 := NB136_137.out; have hnb19 := NB137_138.out; have hnc19 := NB138_137.out; have hcz20_0 : wr.cell? ⟨gb137, 0, none⟩ = some (u138000) := (blk_cell BK137.out 0).trans rfl; have hcz20_1 : wr.cell? ⟨gb137, 1, none⟩ = some (.bool false) := (blk_cell BK137.out 1).trans rfl; have hcz20_2 : wr.cell? ⟨gb137, 2, none⟩ = some (.int .i64 0) := (blk_cell BK137.out 2).trans rfl; have hcz20_3 : wr.cell? ⟨gb137, 3, none⟩ = some (.string (⟨#[]⟩ : ByteArray)) := (blk_cell BK137.out 3).trans rfl; have hfz20_0 := blk_frozen BK137.out 0; have hfz20_1 := blk_frozen BK137.out 1; have hfz20_2 := blk_frozen BK137.out 2; have hfz20_3 := blk_frozen BK137.out 3; obtain ⟨Ao21, co21, eo21⟩ := Kd.R_slice HO_138000.out; subst eo21; have hnb22 := NB136_138.out; have hnc22 := NB138_136.out; have hcz23_0 : wr.cell? ⟨gb136, 0, none⟩ = some (.slice none 0 0) := (blk_cell BK136.out 0).trans rfl; have hcz23_1 : wr.cell? ⟨gb136, 1, none⟩ = some (.bool x137001_1) := (blk_cell BK136.out 1).trans rfl; have hcz23_2 : wr.cell? ⟨gb136, 2, none⟩ = some (.int .i64 x137002_1) := (blk_cell BK136.out 2).trans rfl; have hcz23_3 : wr.cell? ⟨gb136, 3, none⟩ = some (.string x137003_1) := (blk_cell BK136.out 3).trans rfl; have hfz23_0 := blk_frozen BK136.out 0; have hfz23_1 := blk_frozen BK136.out 1; have hfz23_2 := blk_frozen BK136.out 2; have hfz23_3 := blk_frozen BK136.out 3))
                (first | (with_reducible refine Go.noGoto_ret_of ?_) | (with_reducible refine Go.gotos_ret_of ?_) | skip)
                refine bodyPost_ret (results_ct rfl _ _ gb136 39 #[.slice Ao21 x138000_1.length co21, .bool true, .int .i64 0, .string (⟨#[]⟩ : ByteArray)] (0, 0) _ rfl P_ Tryd.underlying39 rfl (by kernel_rfl)) rfl ?_
                exact ⟨_, E_, by (with_reducible repeat (first | apply Kd.R_alloc | apply Kd.R_drewN | apply Kd.R_drew)); exact Kd.R_mono (Kd.R_far (p := ⟨gb136, 3, none⟩) (Kd.R_far (p := ⟨gb136, 2, none⟩) (Kd.R_far (p := ⟨gb136, 1, none⟩) (Kd.R_far (p := ⟨gb136, 0, none⟩) (Kd.R_far (p := ⟨gb137, 1, none⟩) (Kd.R_types (Kd.R_types HO_138000.out BK137.out (by decide)) BK136.out (by decide)) (fun _ hk => hk.1.2) (.bool true)) (fun _ hk => hk.2) (.slice Ao21 x138000_1.length co21)) (fun _ hk => hk.2) (.bool true)) (fun _ hk => hk.2) (.int .i64 0)) (fun _ hk => hk.2) (.string (⟨#[]⟩ : ByteArray))) (fun _ hk => trivial), B_⟩
            · rw [if_neg c10] at H
              have c10b0 : (x0_1.toList == ([41, 86] : List UInt8)) = false := beq_eq_false_iff_ne.mpr c10
              have c10b1 : (x0_1.toList != ([41, 86] : List UInt8)) = true := bne_iff_ne.mpr c10
              by_cases c24 : 1 ≤ (x0_1.size : Int)
              · rw [if_pos c24] at H
                have c24b0 := eq_true c24
                have c24b1 : decide (1 ≤ (x0_1.size : Int)) = true := decide_eq_true c24
                clear c24
                replace H := Option.bind_eq_some_iff.mp H
                obtain ⟨⟨t148, t149, t150, t151⟩, A250, H⟩ := H
                replace H : (if t151 = true then (desc_Sig.j1 k1 (t150.toList != ([] : List UInt8)) x138000_1 false t148 t149) else (desc_Sig.j1 k1 true x138000_1 false t148 t149)) = some (r1, r2, r3, r4, r5) := H
                have A25 := Aside0.mk A250
                clear A250
                have HC26 := Aside0.mk H
                clear H
                go_wp2_with (first | ((with_reducible refine gt_ 82 ?_); refine gd_ 15 Tryd.func82 (strings_HasPrefix.calls x0_1 (⟨#[41]⟩ : ByteArray) true _ A8.out) ?_; rintro w' ⟨nd, rfl⟩; (try (rw [drewN_self wr]; generalize hq_ : World.drewN wr _ = wr; have n0_ : Aside0 (Kd.R k34 34 wr w.heap.size (fun k_ => k_ ≠ gb138) u138000 x138000_1) := ⟨by rw [← hq_]; exact (Q_ HO_138000.out)⟩; have n1_ : Aside0 (wr.heap[gb136]? = some (.cells #[.slice none 0 0, .bool x137001_1, .int .i64 x137002_1, .string x137003_1] 39 (0, 0))) := ⟨by rw [← hq_]; exact P_⟩; have n2_ : Aside0 (wr.heap[gb137]? = some (.cells #[u138000, .bool false, .int .i64 0, .string (⟨#[]⟩ : ByteArray)] 39 (0, 0))) := ⟨by rw [← hq_]; exact P_⟩; have n3_ : Aside0 (wr.heap[gb138]? = some (.cells #[.int .i64 x139000_1, .string x139001_1] 34 (0, 0))) := ⟨by rw [← hq_]; exact P_⟩; have n4_ : Aside0 (Below w.heap.size w wr) := ⟨by rw [← hq_]; exact B_⟩; clear HO_138000 BK136 BK137 BK138 HB hq_; have HO_138000 := n0_; have BK136 := n1_; have BK137 := n2_; have BK138 := n3_; have HB := n4_; clear n0_ n1_ n2_ n3_ n4_))) | ((with_reducible refine gt_ 81 ?_); refine gd_ 37 Tryd.func81 (desc_first.calls k1 (x0_1.extract 1 x0_1.size) t148 t149 t150 t151 _ A25.out) ?_; intro w27 hb; have HO_138000 := rb_ HO_138000 hb; have BK136 := Aside0.mk (blk_below (g := gb136) (o := .cells #[.slice none 0 0, .bool x137001_1, .int .i64 x137002_1, .string x137003_1] 39 (0, 0)) P_ hb); have BK137 := Aside0.mk (blk_below (g := gb137) (o := .cells #[u138000, .bool false, .int .i64 0, .string (⟨#[]⟩ : ByteArray)] 39 (0, 0)) P_ hb); have BK138 := Aside0.mk (blk_below (g := gb138) (o := .cells #[.int .i64 x139000_1, .string x139001_1] 34 (0, 0)) P_ hb); have HB := bs_ hb; (try clear hb); (try clear hb2); (try clear hk); (try clear hi); have hnb28 := NB137_136.out; have hnc28 := NB136_137.out; have hnb29 := NB137_138.out; have hnc29 := NB138_137.out; have hcz30_0 : w27.cell? ⟨gb137, 0, none⟩ = some (u138000) := (blk_cell BK137.out 0).trans rfl; have hcz30_1 : w27.cell? ⟨gb137, 1, none⟩ = some (.bool false) := (blk_cell BK137.out 1).trans rfl; have hcz30_2 : w27.cell? ⟨gb137, 2, none⟩ = some (.int .i64 0) := (blk_cell BK137.out 2).trans rfl; have hcz30_3 : w27.cell? ⟨gb137, 3, none⟩ = some (.string (⟨#[]⟩ : ByteArray)) := (blk_cell BK137.out 3).trans rfl; have hfz30_0 := blk_frozen BK137.out 0; have hfz30_1 := blk_frozen BK137.out 1; have hfz30_2 := blk_frozen BK137.out 2; have hfz30_3 := blk_frozen BK137.out 3))
                refine wp_goto ?_; (try dsimp only [Exit.then, Exit.inBlock]); refine Go.gotos_pick0 ?_
                go_upto_region 15 with (first | ((with_reducible refine gt_ 82 ?_); refine gd_ 15 Tryd.func82 (strings_HasPrefix.calls x0_1 (⟨#[41]⟩ : ByteArray) true _ A8.out) ?_; rintro w' ⟨nd, rfl⟩; (try (rw [drewN_self wr]; generalize hq_ : World.drewN wr _ = wr; have n0_ : Aside0 (Kd.R k34 34 wr w.heap.size (fun k_ => k_ ≠ gb138) u138000 x138000_1) := ⟨by rw [← hq_]; exact (Q_ HO_138000.out)⟩; have n1_ : Aside0 (wr.heap[gb136]? = some (.cells #[.slice none 0 0, .bool x137001_1, .int .i64 x137002_1, .string x137003_1] 39 (0, 0))) := ⟨by rw [← hq_]; exact P_⟩; have n2_ : Aside0 (wr.heap[gb137]? = some (.cells #[u138000, .bool false, .int .i64 0, .string (⟨#[]⟩ : ByteArray)] 39 (0, 0))) := ⟨by rw [← hq_]; exact P_⟩; have n3_ : Aside0 (wr.heap[gb138]? = some (.cells #[.int .i64 x139000_1, .string x139001_1] 34 (0, 0))) := ⟨by rw [← hq_]; exact P_⟩; have n4_ : Aside0 (Below w.heap.size w wr) := ⟨by rw [← hq_]; exact B_⟩; clear HO_138000 BK136 BK137 BK138 HB hq_; have HO_138000 := n0_; have BK136 := n1_; have BK137 := n2_; have BK138 := n3_; have HB := n4_; clear n0_ n1_ n2_ n3_ n4_))) | ((with_reducible refine gt_ 81 ?_); refine gd_ 37 Tryd.func81 (desc_first.calls k1 (x0_1.extract 1 x0_1.size) t148 t149 t150 t151 _ A25.out) ?_; intro w27 hb; have HO_138000 := rb_ HO_138000 hb; have BK136 := Aside0.mk (blk_below (g := gb136) (o := .cells #[.slice none 0 0, .bool x137001_1, .int .i64 x137002_1, .string x137003_1] 39 (0, 0)) P_ hb); have BK137 := Aside0.mk (blk_below (g := gb137) (o := .cells #[u138000, .bool false, .int .i64 0, .string (⟨#[]⟩ : ByteArray)] 39 (0, 0)) P_ hb); have BK138 := Aside0.mk (blk_below (g := gb138) (o := .cells #[.int .i64 x139000_1, .string x139001_1] 34 (0, 0)) P_ hb); have HB := bs_ hb; (try clear hb); (try clear hb2); (try clear hk); (try clear hi); have hnb28 := NB137_136.out; have hnc28 := NB136_137.out; have hnb29 := NB137_138.out; have hnc29 := NB138_137.out; have hcz30_0 : w27.cell? ⟨gb137, 0, none⟩ = some (u138000) := (blk_cell BK137.out 0).trans rfl; have hcz30_1 : w27.cell? ⟨gb137, 1, none⟩ = some (.bool false) := (blk_cell BK137.out 1).trans rfl; have hcz30_2 : w27.cell? ⟨gb137, 2, none⟩ = some (.int .i64 0) := (blk_cell BK137.out 2).trans rfl; have hcz30_3 : w27.cell? ⟨gb137, 3, none⟩ = some (.string (⟨#[]⟩ : ByteArray)) := (blk_cell BK137.out 3).trans rfl; have hfz30_0 := blk_frozen BK137.out 0; have hfz30_1 := blk_frozen BK137.out 1; have hfz30_2 := blk_frozen BK137.out 2; have hfz30_3 := blk_frozen BK137.out 3))
                (try simp only [Act.put, List.setIfInBounds_toArray, List.set_cons_zero, List.set_cons_succ])
                go_cut [47] (fun v47 wc => ∃ (kq : Nat) (x47_25 : Bool), v47 = .bool x47_25 ∧ Aside0 (desc_Sig.j1 kq x47_25 x138000_1 false t148 t149 = some (r1, r2, r3, r4, r5)) ∧ Aside0 (kq ≤ k1) ∧ Aside0 (Kd.R k34 34 wc w.heap.size (fun k_ => k_ ≠ gb138) u138000 x138000_1) ∧ Aside0 (wc.heap[gb136]? = some (.cells #[(.slice none 0 0), .bool x137001_1, .int .i64 x137002_1, .string x137003_1] 39 (0, 0))) ∧ Aside0 (wc.heap[gb137]? = some (.cells #[u138000, .bool false, .int .i64 t148, .string t149] 39 (0, 0))) ∧ Aside0 (wc.heap[gb138]? = some (.cells #[.int .i64 x139000_1, .string x139001_1] 34 (0, 0))) ∧ Aside0 (Below w.heap.size w wc))
                case first =>
                  have H := HC26.out
                  clear HC26
                  by_cases c31 : t151 = true
                  · subst c31
                    have H1 : (desc_Sig.j1 k1 (t150.toList != ([] : List UInt8)) x138000_1 false t148 t149) = some (r1, r2, r3, r4, r5) := by rw [if_pos rfl] at H; exact H
                    clear H
                    have H := H1
                    clear H1
                    have H' := Aside0.mk H
                    clear H
                    go_wp2
                    go_meet
                    case rel => exact ⟨_, ((t150.toList != ([] : List UInt8))), (by first | rfl | (generalize t150.toList = l_; cases l_ <;> first | rfl | (simp; done)) | (simp; done) | (simp [*]; done) | (simp [wrap64]; done)), H', ⟨by have := HK1.out; first | omega | exact Nat.le_refl _⟩, ⟨by (with_reducible repeat (first | apply Kd.R_alloc | apply Kd.R_drewN | apply Kd.R_drew)); exact Kd.R_mono (Kd.R_far (p := ⟨gb137, 3, none⟩) (Kd.R_far (p := ⟨gb137, 2, none⟩) (Kd.R_types HO_138000.out BK137.out (by decide)) (fun _ hk => hk.2) (.int .i64 t148)) (fun _ hk => hk.2) (.string t149)) (fun _ hk => hk.1)⟩, ⟨P_⟩, ⟨P_⟩, ⟨P_⟩, ⟨B_⟩⟩
                  · replace c31 := Bool.eq_false_iff.mpr c31
                    subst c31
                    have H1 : (desc_Sig.j1 k1 true x138000_1 false t148 t149) = some (r1, r2, r3, r4, r5) := by rw [if_neg (show ¬ (false = true) by decide)] at H; exact H
                    clear H
                    have H := H1
                    clear H1
                    have H' := Aside0.mk H
                    clear H
                    go_wp2
                    go_meet
                    case rel => exact ⟨_, (true), R_, H', ⟨by have := HK1.out; first | omega | exact Nat.le_refl _⟩, ⟨by (with_reducible repeat (first | apply Kd.R_alloc | apply Kd.R_drewN | apply Kd.R_drew)); exact Kd.R_mono (Kd.R_far (p := ⟨gb137, 3, none⟩) (Kd.R_far (p := ⟨gb137, 2, none⟩) (Kd.R_types HO_138000.out BK137.out (by decide)) (fun _ hk => hk.2) (.int .i64 t148)) (fun _ hk => hk.2) (.string t149)) (fun _ hk => hk.1)⟩, ⟨P_⟩, ⟨P_⟩, ⟨P_⟩, ⟨B_⟩⟩
                case rest =>
                  clear HC26
                  try clear c1
                  try clear c2
                  try clear p2
                  try clear c3
                  try clear c4
                  try clear c4b0
                  try clear c4b1
                  try clear c8
                  try clear c9
                  try clear c10
                  try clear c10b0
                  try clear c10b1
                  try clear c11
                  try clear c11b0
                  try clear c11b1
                  try clear c12
                  try clear c13
                  try clear c16
                  try clear c18
                  try clear c19
                  try clear c22
                  try clear c24
                  try clear c24b0
                  try clear c24b1
                  try clear c28
                  try clear c29
                  try clear c31
                  try clear hcz14_0
                  try clear hcz14_1
                  try clear hcz14_2
                  try clear hcz14_3
                  try clear hcz17_0
                  try clear hcz17_1
                  try clear hcz17_2
                  try clear hcz17_3
                  try clear hcz20_0
                  try clear hcz20_1
                  try clear hcz20_2
                  try clear hcz20_3
                  try clear hcz23_0
                  try clear hcz23_1
                  try clear hcz23_2
                  try clear hcz23_3
                  try clear hcz30_0
                  try clear hcz30_1
                  try clear hcz30_2
                  try clear hcz30_3
                  try clear hfz14_0
                  try clear hfz14_1
                  try clear hfz14_2
                  try clear hfz14_3
                  try clear hfz17_0
                  try clear hfz17_1
                  try clear hfz17_2
                  try clear hfz17_3
                  try clear hfz20_0
                  try clear hfz20_1
                  try clear hfz20_2
                  try clear hfz20_3
                  try clear hfz23_0
                  try clear hfz23_1
                  try clear hfz23_2
                  try clear hfz23_3
                  try clear hfz30_0
                  try clear hfz30_1
                  try clear hfz30_2
                  try clear hfz30_3
                  try clear p2
                  obtain ⟨kq, x47_25, rfl, HA, HJ25, HO_138000, BK136, BK137, BK138, HB⟩ := hcut
                  cases kq with
                  | zero => exact absurd HA.out (by simp [desc_Sig.j1])
                  | succ kj25 =>
                    have H := HA.out
                    clear HA
                    simp only [desc_Sig.j1] at H
                    by_cases c32 : x47_25 = true
                    · subst c32
                      have H1 : (some (([] : List (S34)), false, 0, (⟨#[]⟩ : ByteArray), 15)) = some (r1, r2, r3, r4, r5) := by rw [if_pos rfl] at H; exact H
                      clear H
                      have H := H1
                      clear H1
                      simp only [Option.some.injEq, Prod.mk.injEq] at H
                      obtain ⟨rfl, rfl, rfl, rfl, rfl⟩ := H
                      have hnb33 := NB136_137.out
                      have hnc33 := NB137_136.out
                      have hnb34 := NB136_138.out
                      have hnc34 := NB138_136.out
                      have hcz35_0 : wc.cell? ⟨gb136, 0, none⟩ = some (.slice none 0 0) := (blk_cell BK136.out 0).trans rfl
                      have hcz35_1 : wc.cell? ⟨gb136, 1, none⟩ = some (.bool x137001_1) := (blk_cell BK136.out 1).trans rfl
                      have hcz35_2 : wc.cell? ⟨gb136, 2, none⟩ = some (.int .i64 x137002_1) := (blk_cell BK136.out 2).trans rfl
                      have hcz35_3 : wc.cell? ⟨gb136, 3, none⟩ = some (.string x137003_1) := (blk_cell BK136.out 3).trans rfl
                      have hfz35_0 := blk_frozen BK136.out 0
                      have hfz35_1 := blk_frozen BK136.out 1
                      have hfz35_2 := blk_frozen BK136.out 2
                      have hfz35_3 := blk_frozen BK136.out 3
                      go_wp2
                      (first | (with_reducible refine Go.noGoto_ret_of ?_) | (with_reducible refine Go.gotos_ret_of ?_) | skip)
                      refine bodyPost_ret (results_ct rfl _ _ gb136 39 #[.slice none 0 0, .bool false, .int .i64 0, .string (⟨#[]⟩ : ByteArray)] (0, 0) _ rfl P_ Tryd.underlying39 rfl (by kernel_rfl)) rfl ?_
                      exact ⟨_, E_, by first | exact Kd.R_nil _ _ _ _ _ | exact Kd.N_nil _ _ _ _ _ | exact Kd.V_nil _ _ _ _ _ | exact Kd.Q_nil _ _ _ _ _ | exact Kd.S_nil _ _ _ _ _, B_⟩
                    · replace c32 := Bool.eq_false_iff.mpr c32
                      subst c32
                      have H1 : (if (x138000_1.length : Int) > 16 then (some (([] : List (S34)), false, 0, (⟨#[]⟩ : ByteArray), 4)) else (some (x138000_1, false, t148, t149, 0))) = some (r1, r2, r3, r4, r5) := by rw [if_neg (show ¬ (false = true) by decide)] at H; exact H
                      clear H
                      have H := H1
                      clear H1
                      by_cases c36 : (x138000_1.length : Int) > 16
                      · rw [if_pos c36] at H
                        have c36b0 : decide (16 < (x138000_1.length : Int)) = true := decide_eq_true c36
                        have c36b1 : decide (16 < x138000_1.length) = true := decide_eq_true (by omega)
                        clear c36
                        simp only [Option.some.injEq, Prod.mk.injEq] at H
                        obtain ⟨rfl, rfl, rfl, rfl, rfl⟩ := H
                        have hnb37 := NB137_136.out
                        have hnc37 := NB136_137.out
                        have hnb38 := NB137_138.out
                        have hnc38 := NB138_137.out
                        have hcz39_0 : wc.cell? ⟨gb137, 0, none⟩ = some (u138000) := (blk_cell BK137.out 0).trans rfl
                        have hcz39_1 : wc.cell? ⟨gb137, 1, none⟩ = some (.bool false) := (blk_cell BK137.out 1).trans rfl
                        have hcz39_2 : wc.cell? ⟨gb137, 2, none⟩ = some (.int .i64 t148) := (blk_cell BK137.out 2).trans rfl
                        have hcz39_3 : wc.cell? ⟨gb137, 3, none⟩ = some (.string t149) := (blk_cell BK137.out 3).trans rfl
                        have hfz39_0 := blk_frozen BK137.out 0
                        have hfz39_1 := blk_frozen BK137.out 1
                        have hfz39_2 := blk_frozen BK137.out 2
                        have hfz39_3 := blk_frozen BK137.out 3
                        obtain ⟨Ao40, co40, eo40⟩ := Kd.R_slice HO_138000.out
                        subst eo40
                        have hnb41 := NB136_138.out
                        have hnc41 := NB138_136.out
                        have hcz42_0 : wc.cell? ⟨gb136, 0, none⟩ = some (.slice none 0 0) := (blk_cell BK136.out 0).trans rfl
                        have hcz42_1 : wc.cell? ⟨gb136, 1, none⟩ = some (.bool x137001_1) := (blk_cell BK136.out 1).trans rfl
                        have hcz42_2 : wc.cell? ⟨gb136, 2, none⟩ = some (.int .i64 x137002_1) := (blk_cell BK136.out 2).trans rfl
                        have hcz42_3 : wc.cell? ⟨gb136, 3, none⟩ = some (.string x137003_1) := (blk_cell BK136.out 3).trans rfl
                        have hfz42_0 := blk_frozen BK136.out 0
                        have hfz42_1 := blk_frozen BK136.out 1
                        have hfz42_2 := blk_frozen BK136.out 2
                        have hfz42_3 := blk_frozen BK136.out 3
                        go_wp2
                        (first | (with_reducible refine Go.noGoto_ret_of ?_) | (with_reducible refine Go.gotos_ret_of ?_) | skip)
                        refine bodyPost_ret (results_ct rfl _ _ gb136 39 #[.slice none 0 0, .bool false, .int .i64 0, .string (⟨#[]⟩ : ByteArray)] (0, 0) _ rfl P_ Tryd.underlying39 rfl (by kernel_rfl)) rfl ?_
                        exact ⟨_, E_, by first | exact Kd.R_nil _ _ _ _ _ | exact Kd.N_nil _ _ _ _ _ | exact Kd.V_nil _ _ _ _ _ | exact Kd.Q_nil _ _ _ _ _ | exact Kd.S_nil _ _ _ _ _, B_⟩
                      · rw [if_neg c36] at H
                        have c36b0 : decide (16 < (x138000_1.length : Int)) = false := decide_eq_false c36
                        have c36b1 : decide (16 < x138000_1.length) = false := decide_eq_false (by omega)
                        clear c36
                        simp only [Option.some.injEq, Prod.mk.injEq] at H
                        obtain ⟨rfl, rfl, rfl, rfl, rfl⟩ := H
                        have hnb43 := NB137_136.out
                        have hnc43 := NB136_137.out
                        have hnb44 := NB137_138.out
                        have hnc44 := NB138_137.out
                        have hcz45_0 : wc.cell? ⟨gb137, 0, none⟩ = some (u138000) := (blk_cell BK137.out 0).trans rfl
                        have hcz45_1 : wc.cell? ⟨gb137, 1, none⟩ = some (.bool false) := (blk_cell BK137.out 1).trans rfl
                        have hcz45_2 : wc.cell? ⟨gb137, 2, none⟩ = some (.int .i64 t148) := (blk_cell BK137.out 2).trans rfl
                        have hcz45_3 : wc.cell? ⟨gb137, 3, none⟩ = some (.string t149) := (blk_cell BK137.out 3).trans rfl
                        have hfz45_0 := blk_frozen BK137.out 0
                        have hfz45_1 := blk_frozen BK137.out 1
                        have hfz45_2 := blk_frozen BK137.out 2
                        have hfz45_3 := blk_frozen BK137.out 3
                        obtain ⟨Ao46, co46, eo46⟩ := Kd.R_slice HO_138000.out
                        subst eo46
                        have hnb47 := NB136_138.out
                        have hnc47 := NB138_136.out
                        have hcz48_0 : wc.cell? ⟨gb136, 0, none⟩ = some (.slice none 0 0) := (blk_cell BK136.out 0).trans rfl
                        have hcz48_1 : wc.cell? ⟨gb136, 1, none⟩ = some (.bool x137001_1) := (blk_cell BK136.out 1).trans rfl
                        have hcz48_2 : wc.cell? ⟨gb136, 2, none⟩ = some (.int .i64 x137002_1) := (blk_cell BK136.out 2).trans rfl
                        have hcz48_3 : wc.cell? ⟨gb136, 3, none⟩ = some (.string x137003_1) := (blk_cell BK136.out 3).trans rfl
                        have hfz48_0 := blk_frozen BK136.out 0
                        have hfz48_1 := blk_frozen BK136.out 1
                        have hfz48_2 := blk_frozen BK136.out 2
                        have hfz48_3 := blk_frozen BK136.out 3
                        go_wp2
                        (first | (with_reducible refine Go.noGoto_ret_of ?_) | (with_reducible refine Go.gotos_ret_of ?_) | skip)
                        refine bodyPost_ret (results_ct rfl _ _ gb136 39 #[.slice Ao46 x138000_1.length co46, .bool false, .int .i64 t148, .string t149] (0, 0) _ rfl P_ Tryd.underlying39 rfl (by kernel_rfl)) rfl ?_
                        exact ⟨_, E_, by (with_reducible repeat (first | apply Kd.R_alloc | apply Kd.R_drewN | apply Kd.R_drew)); exact Kd.R_mono (Kd.R_far (p := ⟨gb136, 3, none⟩) (Kd.R_far (p := ⟨gb136, 2, none⟩) (Kd.R_far (p := ⟨gb136, 1, none⟩) (Kd.R_far (p := ⟨gb136, 0, none⟩) (Kd.R_types HO_138000.out BK136.out (by decide)) (fun _ hk => hk.2) (.slice Ao46 x138000_1.length co46)) (fun _ hk => hk.2) (.bool false)) (fun _ hk => hk.2) (.int .i64 t148)) (fun _ hk => hk.2) (.string t149)) (fun _ hk => trivial), B_⟩
              · rw [if_neg c24] at H
                exact absurd H (by simp)
          · replace c9 := Bool.eq_false_iff.mpr c9
            subst c9
            have H1 : ((desc_first.f k1 x0_1).bind fun bt141 => (if bt141.2.2.2 = true then (if x138000_1.length < 5864062014805 then (desc_Sig.l0 k1 bt141.2.2.1 (x138000_1 ++ [(⟨bt141.1, bt141.2.1⟩ : S34)]) false 0 (⟨#[]⟩ : ByteArray)) else (none)) else (some (([] : List (S34)), false, 0, (⟨#[]⟩ : ByteArray), 15)))) = some (r1, r2, r3, r4, r5) := by rw [if_neg (show ¬ (false = true) by decide)] at H; exact H
            clear H
            have H := H1
            clear H1
            replace H := Option.bind_eq_some_iff.mp H
            obtain ⟨⟨t141, t142, t143, t144⟩, A490, H⟩ := H
            replace H : (if t144 = true then (if x138000_1.length < 5864062014805 then (desc_Sig.l0 k1 t143 (x138000_1 ++ [(⟨t141, t142⟩ : S34)]) false 0 (⟨#[]⟩ : ByteArray)) else (none)) else (some (([] : List (S34)), false, 0, (⟨#[]⟩ : ByteArray), 15))) = some (r1, r2, r3, r4, r5) := H
            have A49 := Aside0.mk A490
            clear A490
            by_cases c50 : t144 = true
            · subst c50
              have H1 : (if x138000_1.length < 5864062014805 then (desc_Sig.l0 k1 t143 (x138000_1 ++ [(⟨t141, t142⟩ : S34)]) false 0 (⟨#[]⟩ : ByteArray)) else (none)) = some (r1, r2, r3, r4, r5) := by rw [if_pos rfl] at H; exact H
              clear H
              have H := H1
              clear H1
              by_cases c51 : x138000_1.length < 5864062014805
              · rw [if_pos c51] at H
                have LMc51 := Aside0.mk c51
                clear c51
                obtain ⟨y145, hy145⟩ : ∃ y_ : List (S34), y_ = (x138000_1 ++ [(⟨t141, t142⟩ : S34)]) := ⟨_, rfl⟩
                replace H : (desc_Sig.l0 k1 t143 y145 false 0 (⟨#[]⟩ : ByteArray)) = some (r1, r2, r3, r4, r5) := by first | (rw [hy145]; with_reducible exact H) | (have H2_ := (Option.bind_some _ _).symm.trans H; rw [hy145]; with_reducible exact H2_) | (have H2_ := (Option.bind_some _ _).symm.trans H; with_reducible exact H2_) | with_reducible exact H | (rw [hy145]; exact H) | exact H
                have Ny145 := Aside0.mk hy145
                clear hy145
                have H' := Aside0.mk H
                clear H
                go_wp2_with (first | ((with_reducible refine gt_ 82 ?_); refine gd_ 15 Tryd.func82 (strings_HasPrefix.calls x0_1 (⟨#[41]⟩ : ByteArray) false _ A8.out) ?_; rintro w' ⟨nd, rfl⟩; (try (rw [drewN_self wr]; generalize hq_ : World.drewN wr _ = wr; have n0_ : Aside0 (Kd.R k34 34 wr w.heap.size (fun k_ => k_ ≠ gb138) u138000 x138000_1) := ⟨by rw [← hq_]; exact (Q_ HO_138000.out)⟩; have n1_ : Aside0 (wr.heap[gb136]? = some (.cells #[.slice none 0 0, .bool x137001_1, .int .i64 x137002_1, .string x137003_1] 39 (0, 0))) := ⟨by rw [← hq_]; exact P_⟩; have n2_ : Aside0 (wr.heap[gb137]? = some (.cells #[u138000, .bool false, .int .i64 0, .string (⟨#[]⟩ : ByteArray)] 39 (0, 0))) := ⟨by rw [← hq_]; exact P_⟩; have n3_ : Aside0 (wr.heap[gb138]? = some (.cells #[.int .i64 x139000_1, .string x139001_1] 34 (0, 0))) := ⟨by rw [← hq_]; exact P_⟩; have n4_ : Aside0 (Below w.heap.size w wr) := ⟨by rw [← hq_]; exact B_⟩; clear HO_138000 BK136 BK137 BK138 HB hq_; have HO_138000 := n0_; have BK136 := n1_; have BK137 := n2_; have BK138 := n3_; have HB := n4_; clear n0_ n1_ n2_ n3_ n4_))) | ((with_reducible refine gt_ 81 ?_); refine gd_ 18 Tryd.func81 (desc_first.calls k1 x0_1 t141 t142 t143 true _ A49.out) ?_; intro w52 hb; have HO_138000 := rb_ HO_138000 hb; have BK136 := Aside0.mk (blk_below (g := gb136) (o := .cells #[.slice none 0 0, .bool x137001_1, .int .i64 x137002_1, .string x137003_1] 39 (0, 0)) P_ hb); have BK137 := Aside0.mk (blk_below (g := gb137) (o := .cells #[u138000, .bool false, .int .i64 0, .string (⟨#[]⟩ : ByteArray)] 39 (0, 0)) P_ hb); have BK138 := Aside0.mk (blk_below (g := gb138) (o := .cells #[.int .i64 x139000_1, .string x139001_1] 34 (0, 0)) P_ hb); have HB := bs_ hb; (try clear hb); (try clear hb2); (try clear hk); (try clear hi); have hnb53 := NB138_136.out; have hnc53 := NB136_138.out; have hnb54 := NB138_137.out; have hnc54 := NB137_138.out; have hcz55_0 : w52.cell? ⟨gb138, 0, none⟩ = some (.int .i64 x139000_1) := (blk_cell BK138.out 0).trans rfl; have hcz55_1 : w52.cell? ⟨gb138, 1, none⟩ = some (.string x139001_1) := (blk_cell BK138.out 1).trans rfl; have hfz55_0 := blk_frozen BK138.out 0; have hfz55_1 := blk_frozen BK138.out 1; have hnb56 := NB137_136.out; have hnc56 := NB136_137.out; have hcz57_0 : w52.cell? ⟨gb137, 0, none⟩ = some (u138000) := (blk_cell BK137.out 0).trans rfl; have hcz57_1 : w52.cell? ⟨gb137, 1, none⟩ = some (.bool false) := (blk_cell BK137.out 1).trans rfl; have hcz57_2 : w52.cell? ⟨gb137, 2, none⟩ = some (.int .i64 0) := (blk_cell BK137.out 2).trans rfl; have hcz57_3 : w52.cell? ⟨gb137, 3, none⟩ = some (.string (⟨#[]⟩ : ByteArray)) := (blk_cell BK137.out 3).trans rfl; have hfz57_0 := blk_frozen BK137.out 0; have hfz57_1 := blk_frozen BK137.out 1; have hfz57_2 := blk_frozen BK137.out 2; have hfz57_3 := blk_frozen BK137.out 3) | ((with_reducible refine gate_builtin (b := .append) (xs := #[.tmp 26, .tmp 28]) rfl ?_); at_builtin; refine Kd.R_append k34 (w0 := w) w.heap.size rfl (.tmp 26) (.tmp 28) 37 34 (.agg #[(.int .i64 0), (.string ⟨#[]⟩)]) 24 rfl Tryd.underlying37 info34 rfl (by decide) (by omega) u138000 x138000_1 (⟨t141, t142⟩ : S34) [.int .i64 t141, .string t142] (fun k_ => k_ ≠ gb138) (fun _ => False) rfl (by first | (go_simp; done) | (go_simp; rfl)) ?aP (fun _ hk => hk.elim) ?aF ?aO ?aB ?aS ?aL ?_; (case aP => exact k34_mkM _ _ _ (⟨t141, t142⟩ : S34)); (case aB => exact B_); (case aF => exact (fun k_ hk => Kd.freshB (g := gb138) (o := .cells #[.int .i64 t141, .string t142] 34 (0, 0)) P_ k_ hk)); (case aO => exact (by (with_reducible repeat (first | apply Kd.R_alloc | apply Kd.R_drewN | apply Kd.R_drew)); exact Kd.R_mono (Kd.R_far (p := ⟨gb138, 1, none⟩) (Kd.R_far (p := ⟨gb138, 0, none⟩) (Kd.R_mono HO_138000.out (fun k_ hk => (⟨hk, hk⟩ : _ ∧ k_ ≠ gb138))) (fun _ hk => hk.2) (.int .i64 t141)) (fun _ hk => hk.2) (.string t142)) (fun _ hk => hk.1))); (case aS => exact (below_size B_)); (case aL => have := LMc51.out; omega); intro v146 w58 ho hb hg hat; rw [← Ny145.out] at ho; have BK136 := Aside0.mk (blk_grown (g := gb136) (o := .cells #[.slice none 0 0, .bool x137001_1, .int .i64 x137002_1, .string x137003_1] 39 (0, 0)) P_ hg (Kd.R_ne HO_138000.out BK136.out (by decide))); have BK137 := Aside0.mk (blk_grown (g := gb137) (o := .cells #[u138000, .bool false, .int .i64 0, .string (⟨#[]⟩ : ByteArray)] 39 (0, 0)) P_ hg (Kd.R_ne HO_138000.out BK137.out (by decide))); have BK138 := Aside0.mk (blk_grown (g := gb138) (o := .cells #[.int .i64 t141, .string t142] 34 (0, 0)) P_ hg (Kd.R_away HO_138000.out (fun _ hk => hk))); have HO147 := Aside0.mk (ho); have HB := Aside0.mk (hb); clear HO_138000; clear ho hb hg hat; obtain ⟨Ao59, co59, eo59⟩ := Kd.R_slice HO147.out; subst eo59; have hcz60_0 : w58.cell? ⟨gb137, 0, none⟩ = some (u138000) := (blk_cell BK137.out 0).trans rfl; have hcz60_1 : w58.cell? ⟨gb137, 1, none⟩ = some (.bool false) := (blk_cell BK137.out 1).trans rfl; have hcz60_2 : w58.cell? ⟨gb137, 2, none⟩ = some (.int .i64 0) := (blk_cell BK137.out 2).trans rfl; have hcz60_3 : w58.cell? ⟨gb137, 3, none⟩ = some (.string (⟨#[]⟩ : ByteArray)) := (blk_cell BK137.out 3).trans rfl; have hfz60_0 := blk_frozen BK137.out 0; have hfz60_1 := blk_frozen BK137.out 1; have hfz60_2 := blk_frozen BK137.out 2; have hfz60_3 := blk_frozen BK137.out 3))
                refine wp_goto ?_; (try dsimp only [Exit.then, Exit.inBlock]); refine Go.gotos_pick1 ?_
                go_wp2
                go_roundg k1
                case measure => have := HK1.out; omega
                case rel => exact ⟨(t143), (x137001_1), (x137002_1), (x137003_1), (y145), (t141), (t142), (.slice Ao59 y145.length co59), R_, H', ⟨by have := HK1.out; omega⟩, ⟨by (with_reducible repeat (first | apply Kd.R_alloc | apply Kd.R_drewN | apply Kd.R_drew)); exact Kd.R_mono (Kd.R_far (p := ⟨gb137, 0, none⟩) (Kd.R_types HO147.out BK137.out (by decide)) (fun _ hk => hk.2) (.slice Ao59 y145.length co59)) (fun _ hk => hk.1)⟩, ⟨P_⟩, ⟨P_⟩, ⟨P_⟩, ⟨B_⟩⟩
              · rw [if_neg c51] at H
                exact absurd H (by simp)
            · replace c50 := Bool.eq_false_iff.mpr c50
              subst c50
              have H1 : (some (([] : List (S34)), false, 0, (⟨#[]⟩ : ByteArray), 15)) = some (r1, r2, r3, r4, r5) := by rw [if_neg (show ¬ (false = true) by decide)] at H; exact H
              clear H
              have H := H1
              clear H1
              simp only [Option.some.injEq, Prod.mk.injEq] at H
              obtain ⟨rfl, rfl, rfl, rfl, rfl⟩ := H
              go_wp2_with (first | ((with_reducible refine gt_ 82 ?_); refine gd_ 15 Tryd.func82 (strings_HasPrefix.calls x0_1 (⟨#[41]⟩ : ByteArray) false _ A8.out) ?_; rintro w' ⟨nd, rfl⟩; (try (rw [drewN_self wr]; generalize hq_ : World.drewN wr _ = wr; have n0_ : Aside0 (Kd.R k34 34 wr w.heap.size (fun k_ => k_ ≠ gb138) u138000 x138000_1) := ⟨by rw [← hq_]; exact (Q_ HO_138000.out)⟩; have n1_ : Aside0 (wr.heap[gb136]? = some (.cells #[.slice none 0 0, .bool x137001_1, .int .i64 x137002_1, .string x137003_1] 39 (0, 0))) := ⟨by rw [← hq_]; exact P_⟩; have n2_ : Aside0 (wr.heap[gb137]? = some (.cells #[u138000, .bool false, .int .i64 0, .string (⟨#[]⟩ : ByteArray)] 39 (0, 0))) := ⟨by rw [← hq_]; exact P_⟩; have n3_ : Aside0 (wr.heap[gb138]? = some (.cells #[.int .i64 x139000_1, .string x139001_1] 34 (0, 0))) := ⟨by rw [← hq_]; exact P_⟩; have n4_ : Aside0 (Below w.heap.size w wr) := ⟨by rw [← hq_]; exact B_⟩; clear HO_138000 BK136 BK137 BK138 HB hq_; have HO_138000 := n0_; have BK136 := n1_; have BK137 := n2_; have BK138 := n3_; have HB := n4_; clear n0_ n1_ n2_ n3_ n4_))) | ((with_reducible refine gt_ 81 ?_); refine gd_ 18 Tryd.func81 (desc_first.calls k1 x0_1 t141 t142 t143 false _ A49.out) ?_; intro w61 hb; have HO_138000 := rb_ HO_138000 hb; have BK136 := Aside0.mk (blk_below (g := gb136) (o := .cells #[.slice none 0 0, .bool x137001_1, .int .i64 x137002_1, .string x137003_1] 39 (0, 0)) P_ hb); have BK137 := Aside0.mk (blk_below (g := gb137) (o := .cells #[u138000, .bool false, .int .i64 0, .string (⟨#[]⟩ : ByteArray)] 39 (0, 0)) P_ hb); have BK138 := Aside0.mk (blk_below (g := gb138) (o := .cells #[.int .i64 x139000_1, .string x139001_1] 34 (0, 0)) P_ hb); have HB := bs_ hb; (try clear hb); (try clear hb2); (try clear hk); (try clear hi); have hnb62 := NB138_136.out; have hnc62 := NB136_138.out; have hnb63 := NB138_137.out; have hnc63 := NB137_138.out; have hcz64_0 : w61.cell? ⟨gb138, 0, none⟩ = some (.int .i64 x139000_1) := (blk_cell BK138.out 0).trans rfl; have hcz64_1 : w61.cell? ⟨gb138, 1, none⟩ = some (.string x139001_1) := (blk_cell BK138.out 1).trans rfl; have hfz64_0 := blk_frozen BK138.out 0; have hfz64_1 := blk_frozen BK138.out 1; have hnb65 := NB136_137.out; have hnc65 := NB137_136.out; have hcz66_0 : w61.cell? ⟨gb136, 0, none⟩ = some (.slice none 0 0) := (blk_cell BK136.out 0).trans rfl; have hcz66_1 : w61.cell? ⟨gb136, 1, none⟩ = some (.bool x137001_1) := (blk_cell BK136.out 1).trans rfl; have hcz66_2 : w61.cell? ⟨gb136, 2, none⟩ = some (.int .i64 x137002_1) := (blk_cell BK136.out 2).trans rfl; have hcz66_3 : w61.cell? ⟨gb136, 3, none⟩ = some (.string x137003_1) := (blk_cell BK136.out 3).trans rfl; have hfz66_0 := blk_frozen BK136.out 0; have hfz66_1 := blk_frozen BK136.out 1; have hfz66_2 := blk_frozen BK136.out 2; have hfz66_3 := blk_frozen BK136.out 3))
              (first | (with_reducible refine Go.noGoto_ret_of ?_) | (with_reducible refine Go.gotos_ret_of ?_) | skip)
              refine bodyPost_ret (results_ct rfl _ _ gb136 39 #[.slice none 0 0, .bool false, .int .i64 0, .string (⟨#[]⟩ : ByteArray)] (0, 0) _ rfl P_ Tryd.underlying39 rfl (by kernel_rfl)) rfl ?_
              exact ⟨_, E_, by first | exact Kd.R_nil _ _ _ _ _ | exact Kd.N_nil _ _ _ _ _ | exact Kd.V_nil _ _ _ _ _ | exact Kd.Q_nil _ _ _ _ _ | exact Kd.S_nil _ _ _ _ _, B_⟩
    · rw [if_neg c4] at H
      exact absurd H (by simp)
  · replace c3 := Bool.eq_false_iff.mpr c3
    subst c3
    have H1 : (some (([] : List (S34)), false, 0, (⟨#[]⟩ : ByteArray), 15)) = some (r1, r2, r3, r4, r5) := by rw [if_neg (show ¬ (false = true) by decide)] at H; exact H
    clear H
    have H := H1
    clear H1
    simp only [Option.some.injEq, Prod.mk.injEq] at H
    obtain ⟨rfl, rfl, rfl, rfl, rfl⟩ := H
    go_enter Tryd.func43, Tryd.ntmps43
    go_wp2_with (first | ((with_reducible refine d_ 2 ?_); refine X_ 2 #[.slice none 0 0, .bool false, .int .i64 0, .string (⟨#[]⟩ : ByteArray)] 39 ?_; intro gb136 hg w67 hbox hb; have BK136 := Aside0.mk hbox; have GW136 := Aside0.mk (s_ hg); have GE136 := GW136; have HB := bs_ hb; clear hb hbox hg) | ((with_reducible refine d_ 4 ?_); refine X_ 4 #[.slice none 0 0, .bool false, .int .i64 0, .string (⟨#[]⟩ : ByteArray)] 39 ?_; intro gb137 hg w68 hbox hb; have BK137 := Aside0.mk hbox; have GW137 := Aside0.mk (s_ hg); have GE137 := GW137; have NB136_137 := Aside0.mk (x_ hg (g := gb136) (o := .cells #[.slice none 0 0, .bool false, .int .i64 0, .string (⟨#[]⟩ : ByteArray)] 39 (0, 0)) P_); have BK136 := Aside0.mk (blk_below (g := gb136) (o := .cells #[.slice none 0 0, .bool false, .int .i64 0, .string (⟨#[]⟩ : ByteArray)] 39 (0, 0)) P_ hb); have NB137_136 := Aside0.mk NB136_137.out.symm; have HB := bs_ hb; clear hb hbox hg) | ((with_reducible refine d_ 5 ?_); refine X_ 5 #[.int .i64 0, .string (⟨#[]⟩ : ByteArray)] 34 ?_; intro gb138 hg w69 hbox hb; have BK138 := Aside0.mk hbox; have GW138 := Aside0.mk (s_ hg); have GE138 := GW138; have NB136_138 := Aside0.mk (x_ hg (g := gb136) (o := .cells #[.slice none 0 0, .bool false, .int .i64 0, .string (⟨#[]⟩ : ByteArray)] 39 (0, 0)) P_); have BK136 := Aside0.mk (blk_below (g := gb136) (o := .cells #[.slice none 0 0, .bool false, .int .i64 0, .string (⟨#[]⟩ : ByteArray)] 39 (0, 0)) P_ hb); have NB138_136 := Aside0.mk NB136_138.out.symm; have NB137_138 := Aside0.mk (x_ hg (g := gb137) (o := .cells #[.slice none 0 0, .bool false, .int .i64 0, .string (⟨#[]⟩ : ByteArray)] 39 (0, 0)) P_); have BK137 := Aside0.mk (blk_below (g := gb137) (o := .cells #[.slice none 0 0, .bool false, .int .i64 0, .string (⟨#[]⟩ : ByteArray)] 39 (0, 0)) P_ hb); have NB138_137 := Aside0.mk NB137_138.out.symm; have HB := bs_ hb; clear hb hbox hg) | ((with_reducible refine gt_ 82 ?_); refine gd_ 8 Tryd.func82 (strings_HasPrefix.calls a0 (⟨#[40]⟩ : ByteArray) false _ A2.out) ?_; rintro w' ⟨nd, rfl⟩; (try (rw [drewN_self w69]; generalize hq_ : World.drewN w69 _ = w69; have n0_ : Aside0 (w69.heap[gb136]? = some (.cells #[.slice none 0 0, .bool false, .int .i64 0, .string (⟨#[]⟩ : ByteArray)] 39 (0, 0))) := ⟨by rw [← hq_]; exact P_⟩; have n1_ : Aside0 (w69.heap[gb137]? = some (.cells #[.slice none 0 0, .bool false, .int .i64 0, .string (⟨#[]⟩ : ByteArray)] 39 (0, 0))) := ⟨by rw [← hq_]; exact P_⟩; have n2_ : Aside0 (w69.heap[gb138]? = some (.cells #[.int .i64 0, .string (⟨#[]⟩ : ByteArray)] 34 (0, 0))) := ⟨by rw [← hq_]; exact P_⟩; have n3_ : Aside0 (Below w.heap.size w w69) := ⟨by rw [← hq_]; exact B_⟩; clear BK136 BK137 BK138 HB hq_; have BK136 := n0_; have BK137 := n1_; have BK138 := n2_; have HB := n3_; clear n0_ n1_ n2_ n3_)); have hnb70 := NB136_137.out; have hnc70 := NB137_136.out; have hnb71 := NB136_138.out; have hnc71 := NB138_136.out; have hcz72_0 : w69.cell? ⟨gb136, 0, none⟩ = some (.slice none 0 0) := (blk_cell BK136.out 0).trans rfl; have hcz72_1 : w69.cell? ⟨gb136, 1, none⟩ = some (.bool false) := (blk_cell BK136.out 1).trans rfl; have hcz72_2 : w69.cell? ⟨gb136, 2, none⟩ = some (.int .i64 0) := (blk_cell BK136.out 2).trans rfl; have hcz72_3 : w69.cell? ⟨gb136, 3, none⟩ = some (.string (⟨#[]⟩ : ByteArray)) := (blk_cell BK136.out 3).trans rfl; have hfz72_0 := blk_frozen BK136.out 0; have hfz72_1 := blk_frozen BK136.out 1; have hfz72_2 := blk_frozen BK136.out 2; have hfz72_3 := blk_frozen BK136.out 3))
    refine Go.wp_scope_twin rfl rfl rfl ?_; intro M_ G_ hM_
    go_wp2_with (first | ((with_reducible refine d_ 2 ?_); refine X_ 2 #[.slice none 0 0, .bool false, .int .i64 0, .string (⟨#[]⟩ : ByteArray)] 39 ?_; intro gb136 hg w67 hbox hb; have BK136 := Aside0.mk hbox; have GW136 := Aside0.mk (s_ hg); have GE136 := GW136; have HB := bs_ hb; clear hb hbox hg) | ((with_reducible refine d_ 4 ?_); refine X_ 4 #[.slice none 0 0, .bool false, .int .i64 0, .string (⟨#[]⟩ : ByteArray)] 39 ?_; intro gb137 hg w68 hbox hb; have BK137 := Aside0.mk hbox; have GW137 := Aside0.mk (s_ hg); have GE137 := GW137; have NB136_137 := Aside0.mk (x_ hg (g := gb136) (o := .cells #[.slice none 0 0, .bool false, .int .i64 0, .string (⟨#[]⟩ : ByteArray)] 39 (0, 0)) P_); have BK136 := Aside0.mk (blk_below (g := gb136) (o := .cells #[.slice none 0 0, .bool false, .int .i64 0, .string (⟨#[]⟩ : ByteArray)] 39 (0, 0)) P_ hb); have NB137_136 := Aside0.mk NB136_137.out.symm; have HB := bs_ hb; clear hb hbox hg) | ((with_reducible refine d_ 5 ?_); refine X_ 5 #[.int .i64 0, .string (⟨#[]⟩ : ByteArray)] 34 ?_; intro gb138 hg w69 hbox hb; have BK138 := Aside0.mk hbox; have GW138 := Aside0.mk (s_ hg); have GE138 := GW138; have NB136_138 := Aside0.mk (x_ hg (g := gb136) (o := .cells #[.slice none 0 0, .bool false, .int .i64 0, .string (⟨#[]⟩ : ByteArray)] 39 (0, 0)) P_); have BK136 := Aside0.mk (blk_below (g := gb136) (o := .cells #[.slice none 0 0, .bool false, .int .i64 0, .string (⟨#[]⟩ : ByteArray)] 39 (0, 0)) P_ hb); have NB138_136 := Aside0.mk NB136_138.out.symm; have NB137_138 := Aside0.mk (x_ hg (g := gb137) (o := .cells #[.slice none 0 0, .bool false, .int .i64 0, .string (⟨#[]⟩ : ByteArray)] 39 (0, 0)) P_); have BK137 := Aside0.mk (blk_below (g := gb137) (o := .cells #[.slice none 0 0, .bool false, .int .i64 0, .string (⟨#[]⟩ : ByteArray)] 39 (0, 0)) P_ hb); have NB138_137 := Aside0.mk NB137_138.out.symm; have HB := bs_ hb; clear hb hbox hg) | ((with_reducible refine gt_ 82 ?_); refine gd_ 8 Tryd.func82 (strings_HasPrefix.calls a0 (⟨#[40]⟩ : ByteArray) false _ A2.out) ?_; rintro w' ⟨nd, rfl⟩; (try (rw [drewN_self w69]; generalize hq_ : World.drewN w69 _ = w69; have n0_ : Aside0 (w69.heap[gb136]? = some (.cells #[.slice none 0 0, .bool false, .int .i64 0, .string (⟨#[]⟩ : ByteArray)] 39 (0, 0))) := ⟨by rw [← hq_]; exact P_⟩; have n1_ : Aside0 (w69.heap[gb137]? = some (.cells #[.slice none 0 0, .bool false, .int .i64 0, .string (⟨#[]⟩ : ByteArray)] 39 (0, 0))) := ⟨by rw [← hq_]; exact P_⟩; have n2_ : Aside0 (w69.heap[gb138]? = some (.cells #[.int .i64 0, .string (⟨#[]⟩ : ByteArray)] 34 (0, 0))) := ⟨by rw [← hq_]; exact P_⟩; have n3_ : Aside0 (Below w.heap.size w w69) := ⟨by rw [← hq_]; exact B_⟩; clear BK136 BK137 BK138 HB hq_; have BK136 := n0_; have BK137 := n1_; have BK138 := n2_; have HB := n3_; clear n0_ n1_ n2_ n3_)); have hnb70 := NB136_137.out; have hnc70 := NB137_136.out; have hnb71 := NB136_138.out; have hnc71 := NB138_136.out; have hcz72_0 : w69.cell? ⟨gb136, 0, none⟩ = some (.slice none 0 0) := (blk_cell BK136.out 0).trans rfl; have hcz72_1 : w69.cell? ⟨gb136, 1, none⟩ = some (.bool false) := (blk_cell BK136.out 1).trans rfl; have hcz72_2 : w69.cell? ⟨gb136, 2, none⟩ = some (.int .i64 0) := (blk_cell BK136.out 2).trans rfl; have hcz72_3 : w69.cell? ⟨gb136, 3, none⟩ = some (.string (⟨#[]⟩ : ByteArray)) := (blk_cell BK136.out 3).trans rfl; have hfz72_0 := blk_frozen BK136.out 0; have hfz72_1 := blk_frozen BK136.out 1; have hfz72_2 := blk_frozen BK136.out 2; have hfz72_3 := blk_frozen BK136.out 3))
    (first | (with_reducible refine Go.noGoto_ret_of ?_) | (with_reducible refine Go.gotos_ret_of ?_) | skip)
    refine bodyPost_ret (results_ct rfl _ _ gb136 39 #[.slice none 0 0, .bool false, .int .i64 0, .string (⟨#[]⟩ : ByteArray)] (0, 0) _ rfl P_ Tryd.underlying39 rfl (by kernel_rfl)) rfl ?_
    exact ⟨_, E_, by first | exact Kd.R_nil _ _ _ _ _ | exact Kd.N_nil _ _ _ _ _ | exact Kd.V_nil _ _ _ _ _ | exact Kd.Q_nil _ _ _ _ _ | exact Kd.S_nil _ _ _ _ _, B_⟩
end Go.Proofs.YtldejfkplnejjaaDoor.P
