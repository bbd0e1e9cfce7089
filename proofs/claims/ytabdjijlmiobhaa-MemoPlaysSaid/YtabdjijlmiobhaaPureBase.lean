/- Plain facts on what the pattern functions answer: the chapter's examples, numbers by Place, and that the document's reading of a pattern is ours. -/
import Derived.Test.YtabdjijlmiobhaaPx2
import Derived.Test.YtabdjijlmiobhaaPx1
import Derived.Test.YtabdjijlmiobhaaPx4
import Derived.Test.YtabdjijlmiobhaaPx7
namespace Go.Proofs.Ytabdjijlmiobhaa.Pure
open Go.RowKit Go.Proofs.Ytabdjijlmiobhaa.P Go.Proofs.Ytabdjijlmiobhaa.G Go.Proofs.Ytabdjijlmiobhaa.P0 Go.Proofs.YtabdjijlmiobhaaW.PrintWords Go.Proofs.YtabdjijlmiobhaaW.PrintLast

theorem awake_true : wainwrightlaw02_awake.f = some true := by
  decide +kernel

theorem place (a n : Int) (h0 : 0 < n) (h1 : n ≤ 4611686018427387904) : ∃ t, wainwrightlaw00_Place.f a n = some t ∧ 0 ≤ t ∧ t < n := by
  unfold wainwrightlaw00_Place.f
  rw [if_neg (by omega)]
  have hl := Int.tmod_lt_of_pos a h0
  have hg := Int.lt_tmod_of_pos a h0
  generalize Int.tmod a n = m at hl hg
  by_cases h : m < 0
  · rw [if_pos h]
    exact ⟨_, rfl, by unfold wrap64; omega, by unfold wrap64; omega⟩
  · rw [if_neg h]
    exact ⟨_, rfl, by omega, hl⟩

theorem place_self (t n : Int) (h0 : 0 ≤ t) (h1 : t < n) : wainwrightlaw00_Place.f t n = some t := by
  unfold wainwrightlaw00_Place.f
  rw [if_neg (by omega), Int.tmod_eq_of_lt h0 h1, if_neg (by omega)]

end Go.Proofs.Ytabdjijlmiobhaa.Pure
