/- wainwrightlaw03.GlobDots answers true at every number: names that begin with a dot are matched by patterns that begin with one alone. No condition. -/
import Derived.Test.YtpoekljclapbfaaPx12
import Derived.Test.YtpoekljclapbfaaPureGlob
namespace Go.Proofs.Ytpoekljclapbfaa.Pure
open Go.RowKit Go.Proofs.Ytpoekljclapbfaa.P Go.Proofs.Ytpoekljclapbfaa.G Go.Proofs.Ytpoekljclapbfaa.P0 Go.Proofs.YtpoekljclapbfaaW.PrintWords Go.Proofs.YtpoekljclapbfaaW.PrintLast

theorem dots_all : ∀ x : Fin 3, wainwrightlaw03_GlobDots.f 40 (x.val : Int) = some true := by
  decide +kernel

theorem GlobDots : wainwrightlaw03_GlobDots.Pure := by
  intro a0 _
  obtain ⟨x, hx, x0, x1⟩ := place a0 3 (by decide) (by decide)
  refine ⟨40, ?_⟩
  have h := dots_all ⟨x.toNat, by omega⟩
  simp only [Int.toNat_of_nonneg x0] at h
  unfold wainwrightlaw03_GlobDots.f at h ⊢
  rw [place_self x 3 x0 x1] at h
  rw [hx]
  exact h
end Go.Proofs.Ytpoekljclapbfaa.Pure
