/- Plain law of sound: what the code's and the document's checks answer, by one model; they are the same for every code that reads as data. -/
import Derived.Test.YtlnjikneepgpaaaPureFind
namespace Go.Proofs.Ytlnjikneepgpaaa.Pure
open Go.RowKit Go.Proofs.Ytlnjikneepgpaaa.P Go.Proofs.Ytlnjikneepgpaaa.G Go.Proofs.Ytlnjikneepgpaaa.P0 Go.Proofs.YtlnjikneepgpaaaW.PrintWords Go.Proofs.YtlnjikneepgpaaaW.PrintLast
set_option linter.unusedVariables false
set_option linter.unusedSimpArgs false

theorem rdT {L : List S44} {i : Nat} (h : i < L.length) : rd_T44 L (i : Int) = L[i] := by simp [rd_T44, List.getD, h]
theorem rdL {L : List (List S44)} {i : Nat} (h : i < L.length) : rd_L4 L (i : Int) = L[i] := by simp [rd_L4, List.getD, h]
theorem rdI {L : List Int} {i : Nat} (h : i < L.length) : rd L (i : Int) = L[i] := by simp [rd, List.getD, h]
theorem drop_at {α : Type} {L : List α} {i : Nat} (h : i < L.length) : L.drop i = L[i] :: L.drop (i + 1) := List.drop_eq_getElem_cons h

/-- What is known of an instruction, of a code, that reads as data. -/
def GoodOp (x : S44) : Prop := x.f2.size ≤ 140737488351232 ∧ x.f3.length ≤ 140737488351232
def GoodCode (l : List (List S44)) : Prop := l.length ≤ 140737488351232 ∧ ∀ b ∈ l, b.length ≤ 140737488351232 ∧ ∀ x ∈ b, GoodOp x

/-- An instruction: how many it takes, and whether it may be. -/
def opS (x : S44) (a1 a2 : Int) : Int × Bool :=
  if x.f0 < 1 ∨ 6 < x.f0 then (0, false)
  else if opBad x.f0 x.f1 x.f2 x.f3 = true then (0, false)
  else if x.f0 = 5 then (x.f1, fitsS x.f2 false x.f1)
  else if x.f0 = 6 then (if x.f3.any (bBad a1 a2) = true then (0, false) else (0, fitsS x.f2 true x.f3.length))
  else if x.f0 = 4 then (x.f1, true)
  else (opTakes x.f0, true)

theorem op_is (x : S44) (a1 a2 : Int) (hx : GoodOp x) : sound_op.f x.f0 x.f1 x.f2 x.f3 a1 a2 = some (opS x a1 a2) := by
  obtain ⟨h1, h2⟩ := hx
  unfold sound_op.f opS
  by_cases c1 : x.f0 < 1 ∨ 6 < x.f0
  · rw [if_pos c1, if_pos c1]
  · rw [if_neg c1, if_neg c1]
    by_cases c2 : opBad x.f0 x.f1 x.f2 x.f3 = true
    · rw [if_pos c2, if_pos c2]
    · rw [if_neg c2, if_neg c2]
      by_cases c3 : x.f0 = 5
      · rw [if_pos c3, if_pos c3, fits_is _ _ _ (by omega)]; rfl
      · rw [if_neg c3, if_neg c3]
        by_cases c4 : x.f0 = 6
        · rw [if_pos c4, if_pos c4, if_pos (by omega)]
          by_cases c5 : x.f3.any (fun b => decide (b ≤ a1 ∨ a2 ≤ b)) = true
          · rw [if_pos c5, if_pos (show x.f3.any (bBad a1 a2) = true from c5)]
          · rw [if_neg c5, if_neg (show ¬ x.f3.any (bBad a1 a2) = true from c5), fits_is _ _ _ (by omega)]; rfl
        · rw [if_neg c4, if_neg c4]
          by_cases c5 : x.f0 = 4
          · rw [if_pos c5, if_pos c5]
          · rw [if_neg c5, if_neg c5]

theorem op_pos (x : S44) (a1 a2 : Int) (h : (opS x a1 a2).2 = true) : 0 ≤ (opS x a1 a2).1 := by
  unfold opS at h ⊢
  by_cases c1 : x.f0 < 1 ∨ 6 < x.f0
  · rw [if_pos c1]; exact Int.le_refl _
  · rw [if_neg c1] at h ⊢
    by_cases c2 : opBad x.f0 x.f1 x.f2 x.f3 = true
    · rw [if_pos c2]; exact Int.le_refl _
    · have hn : ¬ x.f1 < 0 := fun hh => c2 (by simp [opBad, hh])
      rw [if_neg c2] at h ⊢
      by_cases c3 : x.f0 = 5
      · rw [if_pos c3]; simp only; omega
      · rw [if_neg c3] at h ⊢
        by_cases c4 : x.f0 = 6
        · rw [if_pos c4]; split <;> exact Int.le_refl _
        · rw [if_neg c4] at h ⊢
          by_cases c5 : x.f0 = 4
          · rw [if_pos c5]; simp only; omega
          · rw [if_neg c5]; simp only [opTakes]; split <;> (try split) <;> omega

/-- What the document asks of an instruction besides. -/
def tBad (k n : Int) (s : ByteArray) (l : List Int) : Bool :=
  (!(decide (k = 1 ∨ k = 5 ∨ k = 6)) && decide (s.toList ≠ [])) || (!(decide (k = 4 ∨ k = 5)) && decide (n ≠ 0)) || (!(decide (k = 6)) && decide ((l.length : Int) > 0))
theorem takes_f (k : Nat) (f0 f1 : Int) (f2 : ByteArray) (f3 : List Int) (a1 a2 : Int) : wainwrightref13_takes.f k f0 f1 f2 f3 a1 a2 = wainwrightref13_takes.j0 k a1 a2 (tBad f0 f1 f2 f3) f0 f1 f2 f3 := by
  unfold wainwrightref13_takes.f tBad
  by_cases h1 : f0 = 1
  · subst h1; by_cases hn : f1 = 0 <;> simp [hn]
  · by_cases h5 : f0 = 5
    · subst h5; simp
    · by_cases h6 : f0 = 6
      · subst h6; by_cases hn : f1 = 0 <;> simp [hn]
      · by_cases h4 : f0 = 4
        · subst h4; by_cases hs : f2.toList = [] <;> simp [hs]
        · by_cases hs : f2.toList = [] <;> by_cases hn : f1 = 0 <;> simp [h1, h4, h5, h6, hs, hn]

theorem takes_l0 (a1 a2 f0 f1 : Int) (f2 : ByteArray) (L : List Int) (hL : L.length ≤ 140737488351232) : ∀ (d i : Nat), i + d = L.length →
    Ev (fun k => wainwrightref13_takes.l0 k a1 a2 (i : Int) f0 f1 f2 L) (if (L.drop i).any (bBad a1 a2) = true then -1 else if fitsS f2 true L.length = true then 0 else -1) := by
  intro d
  induction d with
  | zero =>
    intro i hi
    rw [List.drop_eq_nil_of_le (by omega)]
    refine Ev.step (f := fun k => (wainwrightref13_fits.f k f2 (L.length : Int) true).bind fun t => if t = true then some 0 else some (-1)) (fun k => ?_) (Ev.bind (ref_fits f2 true _) ?_)
    · simp only [wainwrightref13_takes.l0]
      rw [if_neg (by omega)]
    · cases fitsS f2 true (L.length : Int) <;> exact Ev.now _
  | succ d ih =>
    intro i hi
    have hlt : i < L.length := by omega
    rw [drop_at hlt, List.any_cons]
    by_cases hb : bBad a1 a2 L[i] = true
    · rw [hb, Bool.true_or, if_pos rfl]
      have hb' : L[i] ≤ a1 ∨ a2 ≤ L[i] := of_decide_eq_true hb
      refine Ev.step (f := fun _ => some (-1)) (fun k => ?_) (Ev.now _)
      simp only [wainwrightref13_takes.l0]
      rw [if_pos (by omega), if_pos (by omega), rdI hlt]
      rcases hb' with hb' | hb'
      · rw [if_pos hb']
      · by_cases h : L[i] ≤ a1
        · rw [if_pos h]
        · rw [if_neg h, if_pos hb']
    · have hb2 : bBad a1 a2 L[i] = false := by simpa using hb
      have hb' : ¬ (L[i] ≤ a1 ∨ a2 ≤ L[i]) := of_decide_eq_false hb2
      rw [hb2, Bool.false_or]
      refine Ev.step (f := fun k => wainwrightref13_takes.l0 k a1 a2 ((i + 1 : Nat) : Int) f0 f1 f2 L) (fun k => ?_) (ih (i + 1) (by omega))
      simp only [wainwrightref13_takes.l0]
      rw [if_pos (by omega), if_pos (by omega), rdI hlt, if_neg (fun h => hb' (Or.inl h)), if_neg (fun h => hb' (Or.inr h)), w64 (by omega) (by omega)]
      rfl

theorem takes_is (x : S44) (a1 a2 : Int) (hx : GoodOp x) : ∃ t, Ev (fun k => wainwrightref13_takes.f k x.f0 x.f1 x.f2 x.f3 a1 a2) t ∧ ((opS x a1 a2).2 = true → t = (opS x a1 a2).1) ∧ ((opS x a1 a2).2 = false → t < 0) := by
  obtain ⟨hz1, hz2⟩ := hx
  have hob : opBad x.f0 x.f1 x.f2 x.f3 = (tBad x.f0 x.f1 x.f2 x.f3 || decide (x.f1 < 0)) := by
    unfold opBad tBad
    have hl : decide (x.f3 ≠ []) = decide ((x.f3.length : Int) > 0) := by cases x.f3 <;> simp
    rw [hl]
    generalize (!(decide (x.f0 = 4 ∨ x.f0 = 5)) && decide (x.f1 ≠ 0)) = b1
    generalize (!(decide (x.f0 = 1 ∨ x.f0 = 5 ∨ x.f0 = 6)) && decide (x.f2.toList ≠ [])) = b2
    cases b1 <;> cases b2 <;> rfl
  have hstep : ∀ {g : Nat → Option Int} {t : Int}, (∀ k, wainwrightref13_takes.j0 (k + 1) a1 a2 (tBad x.f0 x.f1 x.f2 x.f3) x.f0 x.f1 x.f2 x.f3 = g k) → Ev g t → Ev (fun k => wainwrightref13_takes.f k x.f0 x.f1 x.f2 x.f3 a1 a2) t := by
    intro g t h1 h2
    exact Ev.congr (fun k => takes_f k _ _ _ _ _ _) (Ev.step h1 h2)
  by_cases hb : tBad x.f0 x.f1 x.f2 x.f3 = true
  · refine ⟨-1, hstep (g := fun _ => some (-1)) (fun k => by simp only [wainwrightref13_takes.j0]; rw [if_pos hb]) (Ev.now _), ?_, fun _ => by omega⟩
    intro h
    unfold opS at h
    rw [hob, hb, Bool.true_or] at h
    by_cases c1 : x.f0 < 1 ∨ 6 < x.f0
    · rw [if_pos c1] at h; cases h
    · rw [if_neg c1, if_pos rfl] at h; cases h
  · have hbf : tBad x.f0 x.f1 x.f2 x.f3 = false := by simpa using hb
    rw [hbf, Bool.false_or] at hob
    unfold opS
    rw [hob]
    by_cases h1 : x.f0 = 1
    · refine ⟨0, hstep (g := fun _ => some 0) (fun k => by simp only [wainwrightref13_takes.j0]; rw [if_neg hb, if_pos h1]) (Ev.now _), ?_⟩
      have hn : x.f1 = 0 := by simp [tBad, h1] at hbf; exact hbf.1
      simp [h1, hn, opTakes]
    · by_cases h2 : x.f0 = 2
      · refine ⟨1, hstep (g := fun _ => some 1) (fun k => by simp only [wainwrightref13_takes.j0]; rw [if_neg hb, if_neg h1, if_pos h2]) (Ev.now _), ?_⟩
        have hn : x.f1 = 0 := by simp [tBad, h2] at hbf; exact hbf.1.2
        simp [h2, hn, opTakes]
      · by_cases h3 : x.f0 = 3
        · refine ⟨3, hstep (g := fun _ => some 3) (fun k => by simp only [wainwrightref13_takes.j0]; rw [if_neg hb, if_neg h1, if_neg h2, if_pos h3]) (Ev.now _), ?_⟩
          have hn : x.f1 = 0 := by simp [tBad, h3] at hbf; exact hbf.1.2
          simp [h3, hn, opTakes]
        · by_cases h4 : x.f0 = 4
          · refine ⟨x.f1, hstep (g := fun _ => some x.f1) (fun k => by simp only [wainwrightref13_takes.j0]; rw [if_neg hb, if_neg h1, if_neg h2, if_neg h3, if_pos h4]) (Ev.now _), ?_⟩
            by_cases hg : x.f1 < 0
            · simp [h4, hg]
            · simp [h4, hg]
          · by_cases h5 : x.f0 = 5
            · refine ⟨if fitsS x.f2 false x.f1 = true then x.f1 else -1, hstep (g := fun k => (wainwrightref13_fits.f k x.f2 x.f1 false).bind fun t => if t = true then some x.f1 else some (-1)) (fun k => by simp only [wainwrightref13_takes.j0]; rw [if_neg hb, if_neg h1, if_neg h2, if_neg h3, if_neg h4, if_pos h5]) (Ev.bind (ref_fits _ _ _) ?_), ?_⟩
              · cases fitsS x.f2 false x.f1 <;> exact Ev.now _
              · by_cases hg : x.f1 < 0
                · cases hf : fitsS x.f2 false x.f1 <;> simp [h5, hg]
                · cases hf : fitsS x.f2 false x.f1 <;> simp [h5, hg, hf]
            · by_cases h6 : x.f0 = 6
              · have hn : x.f1 = 0 := by simp [tBad, h6] at hbf; exact hbf
                refine ⟨_, hstep (g := fun k => wainwrightref13_takes.l0 k a1 a2 ((0 : Nat) : Int) x.f0 x.f1 x.f2 x.f3) (fun k => by simp only [wainwrightref13_takes.j0]; rw [if_neg hb, if_neg h1, if_neg h2, if_neg h3, if_neg h4, if_neg h5, if_pos h6]; rfl) (takes_l0 a1 a2 x.f0 x.f1 x.f2 x.f3 hz2 x.f3.length 0 (by omega)), ?_⟩
                rw [List.drop_zero]
                cases hany : x.f3.any (bBad a1 a2)
                · cases hf : fitsS x.f2 true x.f3.length <;> simp [h6, hn, hf]
                · simp [h6, hn]
              · refine ⟨-1, hstep (g := fun _ => some (-1)) (fun k => by simp only [wainwrightref13_takes.j0]; rw [if_neg hb, if_neg h1, if_neg h2, if_neg h3, if_neg h4, if_neg h5, if_neg h6]) (Ev.now _), ?_, fun _ => by omega⟩
                rw [if_pos (by omega)]
                intro h; cases h
end Go.Proofs.Ytlnjikneepgpaaa.Pure
