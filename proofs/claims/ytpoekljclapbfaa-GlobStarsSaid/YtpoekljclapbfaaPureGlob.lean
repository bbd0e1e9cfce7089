/- Plain facts of the glob statements: numbers by Place; the chapter's example. -/
import Derived.Test.YtpoekljclapbfaaPx8
import Derived.Test.YtpoekljclapbfaaPx9
namespace Go.Proofs.Ytpoekljclapbfaa.Pure
open Go.RowKit Go.Proofs.Ytpoekljclapbfaa.P Go.Proofs.Ytpoekljclapbfaa.G Go.Proofs.Ytpoekljclapbfaa.P0 Go.Proofs.YtpoekljclapbfaaW.PrintWords Go.Proofs.YtpoekljclapbfaaW.PrintLast

theorem place (a n : Int) (h0 : 0 < n) (h1 : n ≤ 4611686018427387904) : ∃ t, wainwrightlaw00_Place.f a n = some t ∧ 0 ≤ t ∧ t < n := by
  unfold wainwrightlaw00_Place.f
  rw [if_neg (by omega)]
  have hl := Int.tmod_lt_of_pos a h0
  have hg := Int.lt_tmod_of_pos a h0
  generalize Int.tmod a n = m at hl hg
  by_cases h : m < 0
  · rw [if_pos h]
    exact ⟨_, rfl, by unfold wrap64; omega, by unfold wrap64; omega⟩
  · rw [if_neg h]
    exact ⟨_, rfl, by omega, hl⟩

theorem place_self (t n : Int) (h0 : 0 ≤ t) (h1 : t < n) : wainwrightlaw00_Place.f t n = some t := by
  unfold wainwrightlaw00_Place.f
  rw [if_neg (by omega), Int.tmod_eq_of_lt h0 h1, if_neg (by omega)]

theorem awake_40 : wainwrightlaw03_awake.f 40 = some true := by
  decide +kernel
end Go.Proofs.Ytpoekljclapbfaa.Pure
