/- wainwrightlaw02.PatternWords answers true at every list of numbers: suffixes turned into others, word by word. No condition. -/
import Derived.Test.YtabdjijlmiobhaaPx9
import Derived.Test.YtabdjijlmiobhaaPureBase
namespace Go.Proofs.Ytabdjijlmiobhaa.Pure
open Go.RowKit Go.Proofs.Ytabdjijlmiobhaa.P Go.Proofs.Ytabdjijlmiobhaa.G Go.Proofs.Ytabdjijlmiobhaa.P0 Go.Proofs.YtabdjijlmiobhaaW.PrintWords Go.Proofs.YtabdjijlmiobhaaW.PrintLast

theorem word_is (v : Int) : ∃ t : Nat, t < 16 ∧ wainwrightlaw00_Word.f v = wainwrightlaw00_Word.f (t : Int) := by
  obtain ⟨t, ht, t0, t1⟩ := place v 16 (by decide) (by decide)
  obtain ⟨t, rfl⟩ := Int.eq_ofNat_of_zero_le t0
  refine ⟨t, by omega, ?_⟩
  unfold wainwrightlaw00_Word.f
  rw [ht, place_self (t : Int) 16 t0 t1]

theorem words_round (k : Nat) (x0 : List Int) (x3 : Int) (h0 : 0 ≤ x3) (h1 : x3 < (x0.length : Int)) :
    wainwrightlaw02_PatternWords.j1 (k + 3) x0 x3 true = wainwrightlaw02_PatternWords.l0 k x0 (wrap64 (x3 + 1)) := by
  obtain ⟨t, ht, hw⟩ := word_is (rd x0 x3)
  simp only [wainwrightlaw02_PatternWords.j1]
  rw [if_pos trivial, if_pos h0, if_pos h1, hw]
  clear hw h0 h1
  match t, ht with
  | 0, _ => (show _ = _; kernel_rfl)
  | 1, _ => (show _ = _; kernel_rfl)
  | 2, _ => (show _ = _; kernel_rfl)
  | 3, _ => (show _ = _; kernel_rfl)
  | 4, _ => (show _ = _; kernel_rfl)
  | 5, _ => (show _ = _; kernel_rfl)
  | 6, _ => (show _ = _; kernel_rfl)
  | 7, _ => (show _ = _; kernel_rfl)
  | 8, _ => (show _ = _; kernel_rfl)
  | 9, _ => (show _ = _; kernel_rfl)
  | 10, _ => (show _ = _; kernel_rfl)
  | 11, _ => (show _ = _; kernel_rfl)
  | 12, _ => (show _ = _; kernel_rfl)
  | 13, _ => (show _ = _; kernel_rfl)
  | 14, _ => (show _ = _; kernel_rfl)
  | 15, _ => (show _ = _; kernel_rfl)
  | m + 16, h => exact absurd h (by omega)

theorem words_loop (x0 : List Int) (hx : x0.length * 8 ≤ 140737488351232) : ∀ (d k : Nat) (i : Nat), i + d = x0.length → 4 * d + 2 ≤ k →
    wainwrightlaw02_PatternWords.l0 k x0 (i : Int) = some true := by
  intro d
  induction d with
  | zero =>
    intro k i hi hk
    obtain ⟨k, rfl⟩ : ∃ m, k = m + 2 := ⟨k - 2, by omega⟩
    simp only [wainwrightlaw02_PatternWords.l0]
    rw [if_neg (by omega)]
    simp only [wainwrightlaw02_PatternWords.j1]
    rw [if_neg (by decide), awake_true]
    rfl
  | succ d ih =>
    intro k i hi hk
    obtain ⟨k, rfl⟩ : ∃ m, k = m + 4 := ⟨k - 4, by omega⟩
    simp only [wainwrightlaw02_PatternWords.l0]
    rw [if_pos (by omega)]
    by_cases h30 : (i : Int) < 30
    · rw [decide_eq_true h30, words_round k x0 i (by omega) (by omega)]
      have e : wrap64 ((i : Int) + 1) = ((i + 1 : Nat) : Int) := by unfold wrap64; omega
      rw [e]
      exact ih k (i + 1) (by omega) (by omega)
    · rw [decide_eq_false h30]
      simp only [wainwrightlaw02_PatternWords.j1]
      rw [if_neg (by decide), awake_true]
      rfl

theorem PatternWords : wainwrightlaw02_PatternWords.Pure := by
  intro l0 _ h1 _
  exact ⟨4 * l0.length + 2, words_loop l0 h1 l0.length (4 * l0.length + 2) 0 (by omega) (by omega)⟩
end Go.Proofs.Ytabdjijlmiobhaa.Pure
