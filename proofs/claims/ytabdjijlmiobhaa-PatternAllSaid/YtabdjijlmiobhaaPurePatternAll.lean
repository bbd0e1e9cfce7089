/- wainwrightlaw02.PatternAll answers true at any four texts: Of, Match, Put and Replace answer as the document does. No condition. -/
import Derived.Test.YtabdjijlmiobhaaPx5
import Derived.Test.YtabdjijlmiobhaaPatMore
namespace Go.Proofs.Ytabdjijlmiobhaa.Pure
open Go.RowKit Go.Proofs.Ytabdjijlmiobhaa.P Go.Proofs.Ytabdjijlmiobhaa.G Go.Proofs.Ytabdjijlmiobhaa.P0 Go.Proofs.YtabdjijlmiobhaaW.PrintWords Go.Proofs.YtabdjijlmiobhaaW.PrintLast

theorem PatternAll : wainwrightlaw02_PatternAll.Pure := by
  intro a0 a1 a2 a3 h0 h1 h2 h3
  refine ⟨a0.size + a1.size + 1, ?_⟩
  unfold wainwrightlaw02_PatternAll.f
  by_cases hb : wrap64 (wrap64 (wrap64 ((a0.size : Int) + (a1.size : Int)) + (a2.size : Int)) + (a3.size : Int)) > 1000
  · rw [if_pos hb, awake_true]; rfl
  · rw [if_neg hb]
    obtain ⟨p, hp, sp⟩ := of_some a0 (by omega)
    obtain ⟨m, hm, sm⟩ := match_some p.1 p.2.1 p.2.2 a2 (by omega) (by omega)
    have ht := put_some p.1 p.2.1 p.2.2 a3 (by omega)
    obtain ⟨r, hr, hr2⟩ := replace_eq (a0.size + a1.size + 1) a0 a1 a2 (by omega) (by omega) h0 h1 h2
    rw [refOf_eq a0 h0 _ (by omega), hp]
    simp only [Option.bind_some]
    rw [match_eq, hm, hr, hr2]
    simp only [Option.bind_some]
    rw [put_eq, ht]
    simp only [Option.bind_some]
    rw [awake_true]
    simp
end Go.Proofs.Ytabdjijlmiobhaa.Pure
