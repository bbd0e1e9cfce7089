/- Cases of the law PathUp, each run in the kernel. -/
import Derived.Test.YtpoekljclapbfaaDoorFinPathUpB
namespace Go.Proofs.YtpoekljclapbfaaDoor.Fin
open Go.Proofs.YtpoekljclapbfaaDoor.Fast Go.RowKit
set_option linter.unusedVariables false
set_option maxRecDepth 1000000
theorem pathUp_8_12_0 : pathUpGo 8 12 0 = true := by decide +kernel
theorem pathUp_8_12_1 : pathUpGo 8 12 1 = true := by decide +kernel
theorem pathUp_8_12_2 : pathUpGo 8 12 2 = true := by decide +kernel
theorem pathUp_8_13_0 : pathUpGo 8 13 0 = true := by decide +kernel
theorem pathUp_8_13_1 : pathUpGo 8 13 1 = true := by decide +kernel
theorem pathUp_8_13_2 : pathUpGo 8 13 2 = true := by decide +kernel
theorem pathUp_8_14_0 : pathUpGo 8 14 0 = true := by decide +kernel
theorem pathUp_8_14_1 : pathUpGo 8 14 1 = true := by decide +kernel
theorem pathUp_8_14_2 : pathUpGo 8 14 2 = true := by decide +kernel
theorem pathUp_9_0_0 : pathUpGo 9 0 0 = true := by decide +kernel
theorem pathUp_9_0_1 : pathUpGo 9 0 1 = true := by decide +kernel
theorem pathUp_9_0_2 : pathUpGo 9 0 2 = true := by decide +kernel
theorem pathUp_9_1_0 : pathUpGo 9 1 0 = true := by decide +kernel
theorem pathUp_9_1_1 : pathUpGo 9 1 1 = true := by decide +kernel
theorem pathUp_9_1_2 : pathUpGo 9 1 2 = true := by decide +kernel
theorem pathUp_9_2_0 : pathUpGo 9 2 0 = true := by decide +kernel
theorem pathUp_9_2_1 : pathUpGo 9 2 1 = true := by decide +kernel
theorem pathUp_9_2_2 : pathUpGo 9 2 2 = true := by decide +kernel
end Go.Proofs.YtpoekljclapbfaaDoor.Fin
