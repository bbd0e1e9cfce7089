/- Plain law of sound: blocks, codes; SoundAny. -/
import Derived.Test.YtlnjikneepgpaaaPureSound
namespace Go.Proofs.Ytlnjikneepgpaaa.Pure
open Go.RowKit Go.Proofs.Ytlnjikneepgpaaa.P Go.Proofs.Ytlnjikneepgpaaa.G Go.Proofs.Ytlnjikneepgpaaa.P0 Go.Proofs.YtlnjikneepgpaaaW.PrintWords Go.Proofs.YtlnjikneepgpaaaW.PrintLast Go.Proofs.YtlnjikneepgpaaaW.PrintMore
set_option linter.unusedVariables false
set_option linter.unusedSimpArgs false

/-- A block's pile: the most on it, if the block may be. -/
def runS (a1 a2 : Int) : List S44 → Int → Int → Option Int
  | [], pile, most => if pile = 1 then some most else none
  | x :: r, pile, most => if (opS x a1 a2).2 = true ∧ (opS x a1 a2).1 ≤ pile then runS a1 a2 r (pile + (1 - (opS x a1 a2).1)) (mx most (pile + (1 - (opS x a1 a2).1))) else none

theorem run_is (a1 a2 : Int) (L : List S44) (hL : L.length ≤ 140737488351232) (hG : ∀ x ∈ L, GoodOp x) : ∀ (d i : Nat) (pile most : Int), i + d = L.length → 0 ≤ pile → pile ≤ i →
    ∃ p, Ev (fun k => sound_run.l0 k a1 a2 most pile L (L.length : Int) (i : Int)) p ∧ p.2 = (runS a1 a2 (L.drop i) pile most).isSome ∧ ∀ m, runS a1 a2 (L.drop i) pile most = some m → p.1 = m := by
  intro d
  induction d with
  | zero =>
    intro i pile most hi h0 h1
    rw [List.drop_eq_nil_of_le (by omega)]
    refine ⟨(most, pile == 1), Ev.step (f := fun _ => some (most, pile == 1)) (fun k => ?_) (Ev.now _), ?_, ?_⟩
    · simp only [sound_run.l0]
      rw [if_neg (by omega)]
    · by_cases h : pile = 1 <;> simp [runS, h]
    · intro m hm
      by_cases h : pile = 1
      · simp [runS, h] at hm; exact hm
      · simp [runS, h] at hm
  | succ d ih =>
    intro i pile most hi h0 h1
    have hlt : i < L.length := by omega
    have hop := op_is L[i] a1 a2 (hG _ (List.getElem_mem hlt))
    have hpos := op_pos L[i] a1 a2
    rw [drop_at hlt]
    simp only [runS]
    obtain ⟨⟨n, ok⟩, hn⟩ : ∃ q, q = opS L[i] a1 a2 := ⟨_, rfl⟩
    rw [← hn] at hop hpos
    simp only [← hn]
    have hunf : ∀ k, sound_run.l0 (k + 1) a1 a2 most pile L (L.length : Int) (i : Int) = (if ok = true then (if n > pile then some (0, false) else sound_run.l0 k a1 a2 (mx most (wrap64 (pile + wrap64 (1 - n)))) (wrap64 (pile + wrap64 (1 - n))) L (L.length : Int) (wrap64 ((i : Int) + 1))) else some (0, false)) := by
      intro k
      simp only [sound_run.l0]
      rw [if_pos (by omega), if_pos (by omega), if_pos (by omega), rdT hlt, hop, Option.bind_some]
    cases ok with
    | false =>
      refine ⟨(0, false), Ev.step (f := fun _ => some (0, false)) (fun k => by rw [hunf]; rfl) (Ev.now _), by simp, by simp⟩
    | true =>
      have hp := hpos rfl
      by_cases hg : n > pile
      · rw [if_neg (by intro h; have := h.2; omega)]
        exact ⟨(0, false), Ev.step (f := fun _ => some (0, false)) (fun k => by rw [hunf, if_pos rfl, if_pos hg]) (Ev.now _), rfl, by simp⟩
      · have e1 : wrap64 (1 - n) = 1 - n := w64 (by simp only at hp; omega) (by simp only at hp; omega)
        have e2 : wrap64 (pile + (1 - n)) = pile + (1 - n) := w64 (by simp only at hp; omega) (by simp only at hp; omega)
        have e3 : wrap64 ((i : Int) + 1) = ((i + 1 : Nat) : Int) := by rw [w64 (by omega) (by omega)]; omega
        rw [if_pos ⟨rfl, by omega⟩]
        obtain ⟨p, hp1, hp2, hp3⟩ := ih (i + 1) (pile + (1 - n)) (mx most (pile + (1 - n))) (by omega) (by omega) (by simp only at hp; omega)
        exact ⟨p, Ev.step (f := fun k => sound_run.l0 k a1 a2 (mx most (pile + (1 - n))) (pile + (1 - n)) L (L.length : Int) ((i + 1 : Nat) : Int)) (fun k => by rw [hunf, if_pos rfl, if_neg hg, e1, e2, e3]) hp1, hp2, hp3⟩

theorem block_is (l : List (List S44)) (hl : l.length ≤ 140737488351232) (b : Nat) (hb : b < l.length) (hL : l[b].length ≤ 140737488351232) (hG : ∀ x ∈ l[b], GoodOp x) : ∀ (d i : Nat) (pile most : Int), i + d = l[b].length → 0 ≤ pile → pile ≤ i →
    Ev (fun k => wainwrightref13_block.l0 k (b : Int) pile most (i : Int) l) ((runS (b : Int) (l.length : Int) (l[b].drop i) pile most).getD (-1)) := by
  intro d
  induction d with
  | zero =>
    intro i pile most hi h0 h1
    rw [List.drop_eq_nil_of_le (by omega)]
    refine Ev.step (f := fun _ => some ((runS (b : Int) (l.length : Int) [] pile most).getD (-1))) (fun k => ?_) (Ev.now _)
    simp only [wainwrightref13_block.l0]
    rw [if_pos (by omega), if_pos (by omega), rdL hb, if_neg (by omega)]
    by_cases h : pile = 1 <;> simp [runS, h]
  | succ d ih =>
    intro i pile most hi h0 h1
    have hlt : i < l[b].length := by omega
    obtain ⟨t, ht, hy, hn⟩ := takes_is l[b][i] (b : Int) (l.length : Int) (hG _ (List.getElem_mem hlt))
    have hpos := op_pos l[b][i] (b : Int) (l.length : Int)
    rw [drop_at hlt]
    simp only [runS]
    obtain ⟨⟨n, ok⟩, hq⟩ : ∃ q, q = opS l[b][i] (b : Int) (l.length : Int) := ⟨_, rfl⟩
    rw [← hq] at hy hn hpos
    simp only [← hq]
    refine Ev.step (f := fun k => (wainwrightref13_takes.f k (l[b][i]).f0 (l[b][i]).f1 (l[b][i]).f2 (l[b][i]).f3 (b : Int) (l.length : Int)).bind fun t168 => if t168 < 0 then some (-1) else if t168 > pile then some (-1) else wainwrightref13_block.l0 k (b : Int) (wrap64 (wrap64 (pile - t168) + 1)) (mx most (wrap64 (wrap64 (pile - t168) + 1))) (wrap64 ((i : Int) + 1)) l) (fun k => ?_) (Ev.bind ht ?_)
    · simp only [wainwrightref13_block.l0]
      rw [if_pos (by omega), if_pos (by omega), rdL hb, if_pos (by omega), if_pos (by omega), rdT hlt]
    · cases ok with
      | false =>
        have := hn rfl
        simp only [if_pos this]
        rw [if_neg (by intro h; cases h.1)]
        exact Ev.now _
      | true =>
        have e := hy rfl
        have hp := hpos rfl
        simp only at e hp
        subst e
        simp only [if_neg (show ¬ t < 0 by omega)]
        by_cases hg : t > pile
        · simp only [if_pos hg]
          rw [if_neg (by intro h; have := h.2; omega)]
          exact Ev.now _
        · simp only [if_neg hg]
          rw [if_pos ⟨trivial, by omega⟩]
          have e1 : wrap64 (pile - t) = pile - t := w64 (by omega) (by omega)
          have e2 : wrap64 (pile - t + 1) = pile + (1 - t) := by rw [w64 (by omega) (by omega)]; omega
          have e3 : wrap64 ((i : Int) + 1) = ((i + 1 : Nat) : Int) := by rw [w64 (by omega) (by omega)]; omega
          simp only [e1, e2, e3]
          exact ih (i + 1) (pile + (1 - t)) (mx most (pile + (1 - t))) (by omega) (by omega) (by omega)

theorem run_pos (a1 a2 : Int) : ∀ (L : List S44) (pile most m : Int), pile ≤ most → runS a1 a2 L pile most = some m → 1 ≤ m
  | [], pile, most, m, h, hm => by
    by_cases hp : pile = 1
    · simp [runS, hp] at hm; omega
    · simp [runS, hp] at hm
  | x :: r, pile, most, m, h, hm => by
    simp only [runS] at hm
    split at hm
    · exact run_pos a1 a2 r _ _ m (by unfold mx; split <;> omega) hm
    · cases hm

/-- All blocks: the most on one's pile. -/
def depthS (N : Int) : List (List S44) → Int → Int → Option Int
  | [], _, most => some most
  | b :: r, i, most => (runS i N b 0 0).bind fun m => depthS N r (i + 1) (mx most m)

theorem check_l0 (l : List (List S44)) (hG : GoodCode l) : ∀ (d i : Nat) (most : Int), i + d = l.length →
    Ev (fun k => sound_check.l0 k most l (l.length : Int) (i : Int) l) (match depthS (l.length : Int) (l.drop i) (i : Int) most with | some m => (m, true) | none => (0, false)) := by
  intro d
  induction d with
  | zero =>
    intro i most hi
    rw [List.drop_eq_nil_of_le (by omega)]
    refine Ev.step (f := fun _ => some (most, true)) (fun k => ?_) (Ev.now _)
    simp only [sound_check.l0]
    rw [if_neg (by omega)]
  | succ d ih =>
    intro i most hi
    have hlt : i < l.length := by omega
    have hb := hG.2 _ (List.getElem_mem hlt)
    obtain ⟨p, hp1, hp2, hp3⟩ := run_is (i : Int) (l.length : Int) l[i] hb.1 hb.2 l[i].length 0 0 0 (by omega) (by omega) (by omega)
    rw [List.drop_zero] at hp2 hp3
    rw [drop_at hlt]
    simp only [depthS]
    have e3 : wrap64 ((i : Int) + 1) = ((i + 1 : Nat) : Int) := by have := hG.1; rw [w64 (by omega) (by omega)]; omega
    refine Ev.step (f := fun k => (sound_run.f k l[i] (i : Int) (l.length : Int)).bind fun bt117 => if bt117.2 = true then sound_check.l0 k (mx most bt117.1) l (l.length : Int) ((i + 1 : Nat) : Int) l else some (0, false)) (fun k => ?_) (Ev.bind (show Ev (fun k => sound_run.f k l[i] (i : Int) (l.length : Int)) p from hp1) ?_)
    · simp only [sound_check.l0]
      rw [if_pos (by omega), if_pos (by omega), if_pos (by omega), rdL hlt, e3]
    · cases hr : runS (i : Int) (l.length : Int) l[i] 0 0 with
      | none =>
        rw [hr] at hp2
        simp only [hp2]
        exact Ev.now _
      | some m =>
        rw [hr] at hp2
        have := hp3 m hr
        simp only [hp2, this, Option.isSome_some, if_true, Option.bind_some]
        exact ih (i + 1) (mx most m) (by omega)

/-- How many instructions there are. -/
def opsS : List (List S44) → Int
  | [] => 0
  | b :: r => (b.length : Int) + opsS r
theorem ops_le (l : List (List S44)) (h : ∀ b ∈ l, b.length ≤ 140737488351232) : 0 ≤ opsS l ∧ opsS l ≤ l.length * 140737488351232 := by
  induction l with
  | nil => exact ⟨Int.le_refl _, by simp [opsS]⟩
  | cons b r ih =>
    have h1 := ih (fun b hb => h b (List.mem_cons_of_mem _ hb))
    have h2 := h b (by simp)
    simp only [opsS, List.length_cons]
    omega
theorem code_ops (l : List (List S44)) (hG : GoodCode l) (h30 : l.length ≤ 30) : ∀ (d i : Nat) (n : Int), i + d = l.length → 0 ≤ n → n ≤ i * 140737488351232 →
    Ev (fun k => code_Ops.l0 k n l (l.length : Int) (i : Int)) (n + opsS (l.drop i)) ∧ Ev (fun k => wainwrightref12_Ops.l0 k n (i : Int) l) (n + opsS (l.drop i)) := by
  intro d
  induction d with
  | zero =>
    intro i n hi h0 h1
    rw [List.drop_eq_nil_of_le (by omega), opsS, Int.add_zero]
    refine ⟨Ev.step (f := fun _ => some n) (fun k => ?_) (Ev.now _), Ev.step (f := fun _ => some n) (fun k => ?_) (Ev.now _)⟩
    · simp only [code_Ops.l0]
      rw [if_neg (by omega)]
    · simp only [wainwrightref12_Ops.l0]
      rw [if_neg (by omega)]
  | succ d ih =>
    intro i n hi h0 h1
    have hlt : i < l.length := by omega
    have hb := (hG.2 _ (List.getElem_mem hlt)).1
    rw [drop_at hlt, opsS]
    have e3 : wrap64 ((i : Int) + 1) = ((i + 1 : Nat) : Int) := by rw [w64 (by omega) (by omega)]; omega
    have e4 : wrap64 (n + (l[i].length : Int)) = n + (l[i].length : Int) := w64 (by omega) (by omega)
    obtain ⟨g1, g2⟩ := ih (i + 1) (n + (l[i].length : Int)) (by omega) (by omega) (by omega)
    rw [Int.add_assoc] at g1 g2
    refine ⟨Ev.step (f := fun k => code_Ops.l0 k (n + (l[i].length : Int)) l (l.length : Int) ((i + 1 : Nat) : Int)) (fun k => ?_) g1, Ev.step (f := fun k => wainwrightref12_Ops.l0 k (n + (l[i].length : Int)) ((i + 1 : Nat) : Int) l) (fun k => ?_) g2⟩
    · simp only [code_Ops.l0]
      rw [if_pos (by omega), if_pos (by omega), if_pos (by omega), rdL hlt, e3, e4]
    · simp only [wainwrightref12_Ops.l0]
      rw [if_pos (by omega), if_pos (by omega), rdL hlt, e3, e4]

theorem depth_l0 (l : List (List S44)) (hG : GoodCode l) (h30 : l.length ≤ 30) : ∀ (d i : Nat) (most : Int), i + d = l.length →
    Ev (fun k => wainwrightref13_Depth.l0 k most (i : Int) l) (match depthS (l.length : Int) (l.drop i) (i : Int) most with | some m => if opsS l > 16384 then 0 else m | none => 0) := by
  intro d
  induction d with
  | zero =>
    intro i most hi
    rw [List.drop_eq_nil_of_le (by omega)]
    have ho := (code_ops l hG h30 l.length 0 0 (by omega) (by omega) (by omega)).2
    rw [List.drop_zero, Int.zero_add] at ho
    refine Ev.step (f := fun k => (wainwrightref12_Ops.f k l).bind fun t => if t > 16384 then some 0 else some most) (fun k => ?_) (Ev.bind (show Ev (fun k => wainwrightref12_Ops.f k l) (opsS l) from ho) ?_)
    · simp only [wainwrightref13_Depth.l0]
      rw [if_neg (by omega)]
    · simp only [depthS]
      by_cases h : opsS l > 16384
      · simp only [if_pos h]; exact Ev.now _
      · simp only [if_neg h]; exact Ev.now _
  | succ d ih =>
    intro i most hi
    have hlt : i < l.length := by omega
    have hb := hG.2 _ (List.getElem_mem hlt)
    have hbl := block_is l hG.1 i hlt hb.1 hb.2 l[i].length 0 0 0 (by omega) (by omega) (by omega)
    rw [List.drop_zero] at hbl
    rw [drop_at hlt]
    simp only [depthS]
    have e3 : wrap64 ((i : Int) + 1) = ((i + 1 : Nat) : Int) := by rw [w64 (by omega) (by omega)]; omega
    refine Ev.step (f := fun k => (wainwrightref13_block.f k l (i : Int)).bind fun t => if t < 0 then some 0 else wainwrightref13_Depth.l0 k (mx most t) ((i + 1 : Nat) : Int) l) (fun k => ?_) (Ev.bind (show Ev (fun k => wainwrightref13_block.f k l (i : Int)) _ from hbl) ?_)
    · simp only [wainwrightref13_Depth.l0]
      rw [if_pos (by omega), e3]
    · cases hr : runS (i : Int) (l.length : Int) l[i] 0 0 with
      | none =>
        simp only [Option.getD_none, if_pos (show (-1 : Int) < 0 by decide), Option.bind_none]
        exact Ev.now _
      | some m =>
        have := run_pos (i : Int) (l.length : Int) l[i] 0 0 m (Int.le_refl _) hr
        simp only [Option.getD_some, if_neg (show ¬ m < 0 by omega), Option.bind_some]
        exact ih (i + 1) (mx most m) (by omega)

theorem depth_pos (N : Int) : ∀ (l : List (List S44)) (i most m : Int), (1 ≤ most ∨ l ≠ []) → depthS N l i most = some m → 1 ≤ m
  | [], i, most, m, h, hm => by
    simp [depthS] at hm
    rcases h with h | h
    · omega
    · exact absurd rfl h
  | b :: r, i, most, m, _, hm => by
    simp only [depthS] at hm
    obtain ⟨q, hq, hm⟩ := Option.bind_eq_some_iff.mp hm
    have := run_pos i N b 0 0 q (Int.le_refl _) hq
    exact depth_pos N r (i + 1) (mx most q) m (Or.inl (by unfold mx; split <;> omega)) hm

/-- The answer of both. -/
def checkS (l : List (List S44)) : Int × Bool :=
  if l = [] then (0, false) else if opsS l > 16384 then (0, false) else (match depthS (l.length : Int) l 0 0 with | some m => (m, true) | none => (0, false))

theorem check_is (l : List (List S44)) (hG : GoodCode l) (h30 : l.length ≤ 30) : Ev (fun k => sound_check.f k l) (checkS l) := by
  unfold sound_check.f checkS
  by_cases h0 : l = []
  · subst h0
    simp only [List.length_nil, Int.ofNat_zero, Int.natCast_zero, if_true]
    exact Ev.step (f := fun _ => some (0, false)) (fun k => rfl) (Ev.now _)
  · have hl : ¬ (l.length : Int) = 0 := by
      intro h
      exact h0 (List.eq_nil_of_length_eq_zero (by omega))
    simp only [if_neg hl, if_neg h0]
    have ho := (code_ops l hG h30 l.length 0 0 (by omega) (by omega) (by omega)).1
    rw [List.drop_zero, Int.zero_add] at ho
    refine Ev.bind (show Ev (fun k => code_Ops.f k l) (opsS l) from ho) ?_
    by_cases h : opsS l > 16384
    · simp only [h, decide_true, if_true]
      exact Ev.step (f := fun _ => some (0, false)) (fun k => rfl) (Ev.now _)
    · simp only [h, decide_false, if_false]
      have hc := check_l0 l hG l.length 0 0 (by omega)
      rw [List.drop_zero] at hc
      exact Ev.step (f := fun k => sound_check.l0 k 0 l (l.length : Int) 0 l) (fun k => rfl) hc
theorem depth_is (l : List (List S44)) (hG : GoodCode l) (h30 : l.length ≤ 30) : Ev (fun k => wainwrightref13_Depth.f k l) (checkS l).1 := by
  have h := depth_l0 l hG h30 l.length 0 0 (by omega)
  rw [List.drop_zero] at h
  have e : (match depthS (l.length : Int) l ((0 : Nat) : Int) 0 with | some m => if opsS l > 16384 then 0 else m | none => 0) = (checkS l).1 := by
    unfold checkS
    by_cases h0 : l = []
    · subst h0; rfl
    · rw [if_neg h0]
      by_cases h : opsS l > 16384
      · rw [if_pos h]
        cases hd : depthS (l.length : Int) l ((0 : Nat) : Int) 0 with
        | none => rfl
        | some m => simp only [if_pos h]
      · rw [if_neg h]
        cases hd : depthS (l.length : Int) l ((0 : Nat) : Int) 0 with
        | none => simp only [show depthS (l.length : Int) l 0 0 = none from hd]
        | some m => simp only [if_neg h, show depthS (l.length : Int) l 0 0 = some m from hd]
  rw [e] at h
  exact h
theorem check_pos (l : List (List S44)) : (checkS l).2 = decide ((checkS l).1 > 0) := by
  unfold checkS
  by_cases h0 : l = []
  · rw [if_pos h0]; rfl
  · rw [if_neg h0]
    by_cases h : opsS l > 16384
    · rw [if_pos h]; rfl
    · rw [if_neg h]
      cases hd : depthS (l.length : Int) l 0 0 with
      | none => rfl
      | some m =>
        have := depth_pos (l.length : Int) l 0 0 m (Or.inr h0) hd
        simp only
        rw [decide_eq_true (by omega)]

theorem sound_awake : Ev (fun k => wainwrightlaw13_awake.f k) true := Ev.of (fun k => wainwrightlaw13_awake.mono k) (k := 60) (by decide +kernel)
end Go.Proofs.Ytlnjikneepgpaaa.Pure
