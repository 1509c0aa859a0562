/- Chapter 4, plainly: code held against a pool. -/
import Derived.Test.YtldejfkplnejjaaDoorPure3b
import Derived.Test.YtldejfkplnejjaaDoorPure3i
import Derived.Test.YtldejfkplnejjaaDoorP14
namespace Go.Proofs.YtldejfkplnejjaaDoor.Pure
open Go.RowKit Go.Proofs.YtldejfkplnejjaaDoor.P Go.Proofs.YtldejfkplnejjaaDoorW.PrintWords
set_option linter.unusedVariables false
abbrev In := S77
theorem calls_e (l : List En) (hl : Small l) (a b c d : Int) : ∃ r, Ev (fun k => instr_calls.f k a b c d l) r := by
  obtain ⟨m, hm⟩ := method_e l hl c
  have h : ∃ r, (if m.2.2.2.2.2.2 = 0 then (if ((m.2.1.toList == ([60, 105, 110, 105, 116, 62] : List UInt8)) != (b == 41)) = true then (some (14 : Int)) else (if b = 41 then (if m.2.2.2.1 = true then (some 0) else (some 15)) else (some 0))) else (some m.2.2.2.2.2.2)) = some r := by
    repeat' split
    all_goals exact ⟨_, rfl⟩
  obtain ⟨r, hr⟩ := h
  exact ⟨r, Ev.bind hm (Ev_const hr)⟩
theorem asks_e (l : List En) (hl : Small l) (a b c d : Int) : ∃ r, Ev (fun k => instr_asks.f k a b c d l) r := by
  obtain ⟨t, ht⟩ := ptype_e l hl c
  obtain ⟨f, hf⟩ := field_e l hl c
  have j1 : ∀ x : Bool, ∃ r, Ev (fun k => instr_asks.j1 k l 0 x a b c d) r := fun x => by
    cases x with
    | true =>
      have h : ∃ r, (if t.2.2 = 0 then ((desc_Number.f t.1 t.2.1).bind fun y => (if y = true then (some (15 : Int)) else (some t.2.2))) else (some t.2.2)) = some r := by
        unfold desc_Number.f
        simp only [Option.bind_some]
        repeat' split
        all_goals exact ⟨_, rfl⟩
      obtain ⟨r, hr⟩ := h
      refine ⟨r, Ev.step (fun k => by rw [instr_asks.j1]) ?_⟩
      exact Ev_pos rfl (Ev.bind ht (Ev_const hr))
    | false =>
      refine ⟨0, Ev.step (fun k => by rw [instr_asks.j1]) ?_⟩
      exact Ev_neg Bool.false_ne_true (Ev.now _)
  have j0 : ∀ x : Bool, ∃ r, Ev (fun k => instr_asks.j0 k l 0 b x a b c d) r := fun x => by
    cases x with
    | true =>
      refine ⟨f.2.2.2.2, Ev.step (fun k => by rw [instr_asks.j0]) ?_⟩
      exact Ev_pos rfl (Ev.bind hf (Ev.now _))
    | false =>
      by_cases h30 : b = 30
      · have h : ∃ r, (if t.2.2 = 0 then (if t.1 = 8 then (some (15 : Int)) else (some t.2.2)) else (some t.2.2)) = some r := by
          repeat' split
          all_goals exact ⟨_, rfl⟩
        obtain ⟨r, hr⟩ := h
        refine ⟨r, Ev.step (fun k => by rw [instr_asks.j0]) ?_⟩
        exact Ev_neg Bool.false_ne_true (Ev_pos h30 (Ev.bind ht (Ev_const hr)))
      · by_cases h36 : b = 36
        · obtain ⟨r, hr⟩ := j1 (b == 36)
          refine ⟨r, Ev.step (fun k => by rw [instr_asks.j0]) ?_⟩
          exact Ev_neg Bool.false_ne_true (Ev_neg h30 (Ev_pos h36 hr))
        · obtain ⟨r, hr⟩ := j1 (b == 37)
          refine ⟨r, Ev.step (fun k => by rw [instr_asks.j0]) ?_⟩
          exact Ev_neg Bool.false_ne_true (Ev_neg h30 (Ev_neg h36 hr))
  unfold instr_asks.f
  by_cases h1 : b = 1
  · obtain ⟨n, hn⟩ := number_e l hl c
    exact ⟨_, Ev_pos h1 (Ev.bind hn (Ev.now _))⟩
  by_cases h2 : b = 25
  · obtain ⟨n, hn⟩ := class_e l hl c
    exact ⟨_, Ev_neg h1 (Ev_pos h2 (Ev.bind hn (Ev.now _)))⟩
  by_cases h3 : b = 26
  · obtain ⟨r, hr⟩ := j0 (b == 26)
    exact ⟨_, Ev_neg h1 (Ev_neg h2 (Ev_pos h3 hr))⟩
  by_cases h4 : b = 27
  · obtain ⟨r, hr⟩ := j0 (b == 27)
    exact ⟨_, Ev_neg h1 (Ev_neg h2 (Ev_neg h3 (Ev_pos h4 hr)))⟩
  by_cases h5 : b = 28
  · obtain ⟨r, hr⟩ := j0 (b == 28)
    exact ⟨_, Ev_neg h1 (Ev_neg h2 (Ev_neg h3 (Ev_neg h4 (Ev_pos h5 hr))))⟩
  · obtain ⟨r, hr⟩ := j0 (b == 29)
    exact ⟨_, Ev_neg h1 (Ev_neg h2 (Ev_neg h3 (Ev_neg h4 (Ev_neg h5 hr))))⟩
/-- What an instruction that names an entry is told, whatever that is. -/
def Told (l : List En) (G : In → Int) : Prop := (∀ i : In, 38 ≤ i.f1 ∧ i.f1 ≤ 41 → Ev (fun k => instr_calls.f k i.f0 i.f1 i.f2 i.f3 l) (G i)) ∧ ∀ i : In, ¬ (38 ≤ i.f1 ∧ i.f1 ≤ 41) → Ev (fun k => instr_asks.f k i.f0 i.f1 i.f2 i.f3 l) (G i)
open Classical in
theorem told_e (l : List En) (hl : Small l) : ∃ G, Told l G := by
  obtain ⟨C, hC⟩ := Classical.axiomOfChoice (fun i : In => calls_e l hl i.f0 i.f1 i.f2 i.f3)
  obtain ⟨A, hA⟩ := Classical.axiomOfChoice (fun i : In => asks_e l hl i.f0 i.f1 i.f2 i.f3)
  refine ⟨fun i => if 38 ≤ i.f1 ∧ i.f1 ≤ 41 then C i else A i, fun i h => ?_, fun i h => ?_⟩
  · simp only; rw [if_pos h]; exact hC i
  · simp only; rw [if_neg h]; exact hA i
def ckS (G : In → Int) (loc : Int) (bg : List Bool) (i : In) : Int :=
  if i.f1 = 3 ∨ i.f1 = 4 then (if i.f2 ≥ loc then 43 else 0)
  else if 19 ≤ i.f1 ∧ i.f1 ≤ 24 then (if i.f2 ≥ (bg.length : Int) ∨ bg.getD i.f2.toNat false = false then 18 else 0) else G i
def badS (ck : In → Int) : List In → Int × Int
  | [] => (0, 0)
  | i :: r => if ck i = 0 then badS ck r else (i.f0, ck i)
def markS : List Bool → List In → List Bool
  | bg, [] => bg
  | bg, i :: r => markS (bg.set i.f0.toNat true) r
theorem markS_len : ∀ (l : List In) (bg : List Bool), (markS bg l).length = bg.length
  | [], bg => rfl
  | i :: r, bg => by rw [markS, markS_len r, List.length_set]
theorem rdI {l : List In} {j : Nat} {x : In} (h : l[j]? = some x) : rd_T77 l (j : Int) = x := getD_at rfl h
theorem check_l1 (l : List En) (G : In → Int) (hG : Told l G) (loc : Int) (bg : List Bool) (is : List In) (hi0 : ∀ i ∈ is, 0 ≤ i.f2) (hlen : is.length ≤ 2000000) : ∀ (c j : Nat), j + c = is.length →
    Ev (fun k => instr_Check.l1 k l loc 0 bg is (is.length : Int) (j : Int)) (badS (ckS G loc bg) (is.drop j))
  | 0, j, hj => by
    rw [List.drop_of_length_le (by omega)]
    refine Ev.step (fun k => by rw [instr_Check.l1]) ?_
    exact Ev_neg (by omega) (Ev.now _)
  | c + 1, j, hj => by
    obtain ⟨i, hi⟩ := at_of (l := is) (j := j) (by omega)
    have h2 := hi0 i (List.mem_of_getElem? hi)
    have next := check_l1 l G hG loc bg is hi0 hlen c (j + 1) (by omega)
    have hw : wrap64 ((j : Int) + 1) = ((j + 1 : Nat) : Int) := by rw [w64] <;> omega
    rw [drop_at hi, badS]
    have j3 : ∀ b : Bool, ckS G loc bg i = (if b = true then 18 else 0) → Ev (fun k => instr_Check.j3 k l loc 0 bg is (is.length : Int) (j : Int) b i.f0 i.f1 i.f2 i.f3) (if ckS G loc bg i = 0 then badS (ckS G loc bg) (is.drop (j + 1)) else (i.f0, ckS G loc bg i)) := fun b hb => by
      refine Ev.step (fun k => by rw [instr_Check.j3, hw]) ?_
      rw [hb]
      cases b with
      | true => exact Ev_pos rfl (Ev_neg (by omega) (Ev.now _))
      | false => exact Ev_neg Bool.false_ne_true (Ev_pos rfl next)
    have j4 : ∀ b : Bool, ckS G loc bg i = G i → b = decide (38 ≤ i.f1 ∧ i.f1 ≤ 41) → Ev (fun k => instr_Check.j4 k l loc bg is (is.length : Int) (j : Int) b i.f0 i.f1 i.f2 i.f3) (if ckS G loc bg i = 0 then badS (ckS G loc bg) (is.drop (j + 1)) else (i.f0, ckS G loc bg i)) := fun b hb hd => by
      refine Ev.step (fun k => by rw [instr_Check.j4, hw]) ?_
      rw [hb]
      by_cases h38 : 38 ≤ i.f1 ∧ i.f1 ≤ 41
      · rw [hd, decide_eq_true h38]
        refine Ev_pos rfl (Ev.bind (hG.1 i h38) ?_)
        by_cases h0 : G i = 0
        · rw [if_pos h0]; refine Ev_pos h0 ?_; rw [h0]; exact next
        · rw [if_neg h0]; exact Ev_neg h0 (Ev.now _)
      · rw [hd, decide_eq_false h38]
        refine Ev_neg Bool.false_ne_true (Ev.bind (hG.2 i h38) ?_)
        by_cases h0 : G i = 0
        · rw [if_pos h0]; refine Ev_pos h0 ?_; rw [h0]; exact next
        · rw [if_neg h0]; exact Ev_neg h0 (Ev.now _)
    have j2 : ∀ b : Bool, b = decide (i.f1 = 3 ∨ i.f1 = 4) → Ev (fun k => instr_Check.j2 k l loc 0 bg is (is.length : Int) (j : Int) b i.f0 i.f1 i.f2 i.f3) (if ckS G loc bg i = 0 then badS (ckS G loc bg) (is.drop (j + 1)) else (i.f0, ckS G loc bg i)) := fun b hb => by
      refine Ev.step (fun k => by rw [instr_Check.j2, hw]) ?_
      by_cases h34 : i.f1 = 3 ∨ i.f1 = 4
      · rw [hb, decide_eq_true h34]
        refine Ev_pos rfl ?_
        by_cases hn : i.f2 ≥ loc
        · have hck : ckS G loc bg i = 43 := by unfold ckS; rw [if_pos h34, if_pos hn]
          rw [hck]
          exact Ev_pos hn (Ev_neg (by omega) (Ev.now _))
        · have hck : ckS G loc bg i = 0 := by unfold ckS; rw [if_pos h34, if_neg hn]
          rw [hck]
          exact Ev_neg hn (Ev_pos rfl next)
      · rw [hb, decide_eq_false h34]
        refine Ev_neg Bool.false_ne_true (Ev_bindc (jumps_f _) ?_)
        by_cases hjm : 19 ≤ i.f1 ∧ i.f1 ≤ 24
        · rw [decide_eq_true hjm]
          refine Ev_pos rfl ?_
          by_cases hge : i.f2 ≥ (bg.length : Int)
          · exact Ev_pos hge (j3 true (by unfold ckS; rw [if_neg h34, if_pos hjm, if_pos (.inl hge)]; rfl))
          · refine Ev_neg hge (Ev_pos h2 (Ev_pos (by omega) (j3 _ ?_)))
            unfold ckS
            rw [if_neg h34, if_pos hjm]
            have e : rdOf false bg i.f2 = bg.getD i.f2.toNat false := rfl
            rw [e]
            cases hbg : bg.getD i.f2.toNat false with
            | true => rw [if_neg (by rintro (h | h); exact hge h; cases h)]; rfl
            | false => rw [if_pos (.inr rfl)]; rfl
        · rw [decide_eq_false hjm]
          have hck : ckS G loc bg i = G i := by unfold ckS; rw [if_neg h34, if_neg hjm]
          refine Ev_neg Bool.false_ne_true ?_
          by_cases h38 : i.f1 ≥ 38
          · exact Ev_pos h38 (j4 _ hck (by by_cases h : i.f1 ≤ 41 <;> simp [h, h38]))
          · exact Ev_neg h38 (j4 _ hck (by rw [decide_eq_false (fun h => h38 h.1)]))
    refine Ev.step (fun k => by rw [instr_Check.l1, rdI hi]) (Ev_pos (by omega) (Ev_pos (by omega) (Ev_pos (by omega) ?_)))
    by_cases h3 : i.f1 = 3
    · exact Ev_pos h3 (j2 true (by simp [h3]))
    · exact Ev_neg h3 (j2 _ (by rw [Bool.eq_iff_iff]; simp [h3]))
theorem check_l0 (l : List En) (G : In → Int) (hG : Told l G) (loc : Int) (is : List In) (hi0 : ∀ i ∈ is, 0 ≤ i.f2) (hlen : is.length ≤ 2000000) : ∀ (c j : Nat) (bg : List Bool), j + c = is.length → (∀ i ∈ is, 0 ≤ i.f0 ∧ i.f0 < bg.length) →
    Ev (fun k => instr_Check.l0 k l loc is 0 bg is (is.length : Int) (j : Int)) (badS (ckS G loc (markS bg (is.drop j))) is)
  | 0, j, bg, hj, hb => by
    have h := check_l1 l G hG loc bg is hi0 hlen is.length 0 (Nat.zero_add _)
    rw [List.drop_zero] at h
    rw [List.drop_of_length_le (by omega), markS]
    refine Ev.step (fun k => by rw [instr_Check.l0]) ?_
    exact Ev_neg (by omega) h
  | c + 1, j, bg, hj, hb => by
    obtain ⟨i, hi⟩ := at_of (l := is) (j := j) (by omega)
    have h2 := hb i (List.mem_of_getElem? hi)
    rw [drop_at hi, markS]
    have hw : wrap64 ((j : Int) + 1) = ((j + 1 : Nat) : Int) := by rw [w64] <;> omega
    refine Ev.step (fun k => by rw [instr_Check.l0, rdI hi, hw]) (Ev_pos (by omega) (Ev_pos (by omega) (Ev_pos (by omega) (Ev_pos h2.1 (Ev_pos h2.2 ?_)))))
    exact check_l0 l G hG loc is hi0 hlen c (j + 1) _ (by omega) (fun x hx => by rw [List.length_set]; exact hb x hx)
def checkS (G : In → Int) (code : List Int) (loc : Int) : Int × Int :=
  if code.length = 0 then (0, 46) else if 1024 < code.length then (0, 5) else match parse code.length 0 code with
    | .error e => (e.1, e.2)
    | .ok is => badS (ckS G loc (markS (List.replicate code.length false) is)) is
theorem check_f (code : List Int) (hb : Bytes code) (l : List En) (G : In → Int) (hG : Told l G) (loc : Int) : Ev (fun k => instr_Check.f k code l loc) (checkS G code loc) := by
  unfold instr_Check.f checkS
  by_cases h0 : code.length = 0
  · rw [if_pos h0]; exact Ev_pos (by omega) (Ev.now _)
  rw [if_neg h0]
  refine Ev_neg (by omega) ?_
  by_cases h1 : 1024 < code.length
  · rw [if_pos h1]; exact Ev_pos (by omega) (Ev.now _)
  rw [if_neg h1]
  refine Ev_neg (by omega) (Ev.bind (all_f code hb (by omega)) ?_)
  have hin := parse_in code.length 0 code (Nat.le_refl _)
  cases hp : parse code.length 0 code with
  | error e =>
    obtain ⟨p, e⟩ := e
    have := (hin.2 p e hp).2.2
    exact Ev_neg (show ¬ (e = 0) by omega) (Ev.now _)
  | ok is =>
    have hln := parse_len _ _ _ _ hp
    obtain ⟨hgood, _⟩ := parse_back code.length 0 code is hb (Nat.le_refl _) hp
    refine Ev_pos rfl (Ev_pos (by omega) (Ev_pos (by simp only [Int.toNat_natCast]; omega) ?_))
    have h := check_l0 l G hG loc is (fun i hi => (hgood i hi).2.1) (by omega) is.length 0 (List.replicate code.length false) (Nat.zero_add _) (fun i hi => by
      have := hin.1 is hp i hi
      rw [List.length_replicate]
      omega)
    rw [List.drop_zero] at h
    simp only [allOf, Int.toNat_natCast, List.nil_append]
    exact h
theorem badS_0 (ck : In → Int) : ∀ is : List In, (badS ck is).2 = 0 ↔ ∀ i ∈ is, ck i = 0
  | [] => by simp [badS]
  | i :: r => by
    rw [badS]
    by_cases h : ck i = 0
    · rw [if_pos h, badS_0 ck r]; simp [h]
    · rw [if_neg h]; simp [h]
theorem badS_v (ck : In → Int) : ∀ is : List In, (badS ck is).2 = 0 ∨ ∃ i ∈ is, ck i ≠ 0 ∧ (badS ck is).2 = ck i
  | [] => .inl rfl
  | i :: r => by
    rw [badS]
    by_cases h : ck i = 0
    · rw [if_pos h]
      rcases badS_v ck r with h' | ⟨x, hx, h'⟩
      · exact .inl h'
      · exact .inr ⟨x, List.mem_cons_of_mem _ hx, h'⟩
    · rw [if_neg h]; exact .inr ⟨i, List.mem_cons_self .., h, rfl⟩
theorem checkS_ok {G : In → Int} {code : List Int} {loc : Int} (h : (checkS G code loc).2 = 0) (hb : Bytes code) : ∃ is, code.length ≠ 0 ∧ code.length ≤ 1024 ∧ parse code.length 0 code = .ok is ∧ ∀ i ∈ is, ckS G loc (markS (List.replicate code.length false) is) i = 0 := by
  unfold checkS at h
  split at h
  · simp at h
  · rename_i h0
    split at h
    · simp at h
    · rename_i h1
      split at h
      · rename_i e hp
        have := (parse_in code.length 0 code (Nat.le_refl _)).2 e.1 e.2 hp
        simp only at h
        omega
      · rename_i is hp
        exact ⟨is, h0, by omega, hp, (badS_0 _ _).1 h⟩
end Go.Proofs.YtldejfkplnejjaaDoor.Pure
