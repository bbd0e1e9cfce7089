/- Cases of the law PathUp, each run in the kernel. -/
import Derived.Test.YtpoekljclapbfaaDoorFinPathUpB
namespace Go.Proofs.YtpoekljclapbfaaDoor.Fin
open Go.Proofs.YtpoekljclapbfaaDoor.Fast Go.RowKit
set_option linter.unusedVariables false
set_option maxRecDepth 1000000
theorem pathUp_0_12_0 : pathUpGo 0 12 0 = true := by decide +kernel
theorem pathUp_0_12_1 : pathUpGo 0 12 1 = true := by decide +kernel
theorem pathUp_0_12_2 : pathUpGo 0 12 2 = true := by decide +kernel
theorem pathUp_0_13_0 : pathUpGo 0 13 0 = true := by decide +kernel
theorem pathUp_0_13_1 : pathUpGo 0 13 1 = true := by decide +kernel
theorem pathUp_0_13_2 : pathUpGo 0 13 2 = true := by decide +kernel
theorem pathUp_0_14_0 : pathUpGo 0 14 0 = true := by decide +kernel
theorem pathUp_0_14_1 : pathUpGo 0 14 1 = true := by decide +kernel
theorem pathUp_0_14_2 : pathUpGo 0 14 2 = true := by decide +kernel
theorem pathUp_1_0_0 : pathUpGo 1 0 0 = true := by decide +kernel
theorem pathUp_1_0_1 : pathUpGo 1 0 1 = true := by decide +kernel
theorem pathUp_1_0_2 : pathUpGo 1 0 2 = true := by decide +kernel
theorem pathUp_1_1_0 : pathUpGo 1 1 0 = true := by decide +kernel
theorem pathUp_1_1_1 : pathUpGo 1 1 1 = true := by decide +kernel
theorem pathUp_1_1_2 : pathUpGo 1 1 2 = true := by decide +kernel
theorem pathUp_1_2_0 : pathUpGo 1 2 0 = true := by decide +kernel
theorem pathUp_1_2_1 : pathUpGo 1 2 1 = true := by decide +kernel
theorem pathUp_1_2_2 : pathUpGo 1 2 2 = true := by decide +kernel
end Go.Proofs.YtpoekljclapbfaaDoor.Fin
