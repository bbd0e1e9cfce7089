/- wainwrightlaw02.PatternBacks answers true at every two numbers: so many backslashes ahead of a percent sign are halved, and quote it when they are odd. No condition. -/
import Derived.Test.YtabdjijlmiobhaaPx7
import Derived.Test.YtabdjijlmiobhaaPureBase
namespace Go.Proofs.Ytabdjijlmiobhaa.Pure
open Go.RowKit Go.Proofs.Ytabdjijlmiobhaa.P Go.Proofs.YtabdjijlmiobhaaW.PrintWords Go.Proofs.YtabdjijlmiobhaaW.PrintLast

theorem backs_all : ∀ x : Fin 20, ∀ y : Fin 20, wainwrightlaw02_PatternBacks.l0 42 (x.val : Int) (y.val : Int) ⟨#[97]⟩ 0 = some true := by
  decide +kernel

theorem PatternBacks : wainwrightlaw02_PatternBacks.Pure := by
  intro a0 a1 _ _
  obtain ⟨x, hx, x0, x1⟩ := place a0 20 (by decide) (by decide)
  obtain ⟨y, hy, y0, y1⟩ := place a1 20 (by decide) (by decide)
  refine ⟨42, ?_⟩
  have h := backs_all ⟨x.toNat, by omega⟩ ⟨y.toNat, by omega⟩
  simp only [Int.toNat_of_nonneg x0, Int.toNat_of_nonneg y0] at h
  unfold wainwrightlaw02_PatternBacks.f
  rw [hx, hy]
  exact h
end Go.Proofs.Ytabdjijlmiobhaa.Pure
