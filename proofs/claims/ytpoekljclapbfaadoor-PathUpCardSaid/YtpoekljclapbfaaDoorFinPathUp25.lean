/- Cases of the law PathUp, each run in the kernel. -/
import Derived.Test.YtpoekljclapbfaaDoorFinPathUpB
namespace Go.Proofs.YtpoekljclapbfaaDoor.Fin
open Go.Proofs.YtpoekljclapbfaaDoor.Fast Go.RowKit
set_option linter.unusedVariables false
set_option maxRecDepth 1000000
theorem pathUp_10_0_0 : pathUpGo 10 0 0 = true := by decide +kernel
theorem pathUp_10_0_1 : pathUpGo 10 0 1 = true := by decide +kernel
theorem pathUp_10_0_2 : pathUpGo 10 0 2 = true := by decide +kernel
theorem pathUp_10_1_0 : pathUpGo 10 1 0 = true := by decide +kernel
theorem pathUp_10_1_1 : pathUpGo 10 1 1 = true := by decide +kernel
theorem pathUp_10_1_2 : pathUpGo 10 1 2 = true := by decide +kernel
theorem pathUp_10_2_0 : pathUpGo 10 2 0 = true := by decide +kernel
theorem pathUp_10_2_1 : pathUpGo 10 2 1 = true := by decide +kernel
theorem pathUp_10_2_2 : pathUpGo 10 2 2 = true := by decide +kernel
theorem pathUp_10_3_0 : pathUpGo 10 3 0 = true := by decide +kernel
theorem pathUp_10_3_1 : pathUpGo 10 3 1 = true := by decide +kernel
theorem pathUp_10_3_2 : pathUpGo 10 3 2 = true := by decide +kernel
theorem pathUp_10_4_0 : pathUpGo 10 4 0 = true := by decide +kernel
theorem pathUp_10_4_1 : pathUpGo 10 4 1 = true := by decide +kernel
theorem pathUp_10_4_2 : pathUpGo 10 4 2 = true := by decide +kernel
theorem pathUp_10_5_0 : pathUpGo 10 5 0 = true := by decide +kernel
theorem pathUp_10_5_1 : pathUpGo 10 5 1 = true := by decide +kernel
theorem pathUp_10_5_2 : pathUpGo 10 5 2 = true := by decide +kernel
end Go.Proofs.YtpoekljclapbfaaDoor.Fin
