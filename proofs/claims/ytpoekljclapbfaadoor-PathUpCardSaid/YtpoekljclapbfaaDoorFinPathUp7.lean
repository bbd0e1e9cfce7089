/- Cases of the law PathUp, each run in the kernel. -/
import Derived.Test.YtpoekljclapbfaaDoorFinPathUpB
namespace Go.Proofs.YtpoekljclapbfaaDoor.Fin
open Go.Proofs.YtpoekljclapbfaaDoor.Fast Go.RowKit
set_option linter.unusedVariables false
set_option maxRecDepth 1000000
theorem pathUp_2_12_0 : pathUpGo 2 12 0 = true := by decide +kernel
theorem pathUp_2_12_1 : pathUpGo 2 12 1 = true := by decide +kernel
theorem pathUp_2_12_2 : pathUpGo 2 12 2 = true := by decide +kernel
theorem pathUp_2_13_0 : pathUpGo 2 13 0 = true := by decide +kernel
theorem pathUp_2_13_1 : pathUpGo 2 13 1 = true := by decide +kernel
theorem pathUp_2_13_2 : pathUpGo 2 13 2 = true := by decide +kernel
theorem pathUp_2_14_0 : pathUpGo 2 14 0 = true := by decide +kernel
theorem pathUp_2_14_1 : pathUpGo 2 14 1 = true := by decide +kernel
theorem pathUp_2_14_2 : pathUpGo 2 14 2 = true := by decide +kernel
theorem pathUp_3_0_0 : pathUpGo 3 0 0 = true := by decide +kernel
theorem pathUp_3_0_1 : pathUpGo 3 0 1 = true := by decide +kernel
theorem pathUp_3_0_2 : pathUpGo 3 0 2 = true := by decide +kernel
theorem pathUp_3_1_0 : pathUpGo 3 1 0 = true := by decide +kernel
theorem pathUp_3_1_1 : pathUpGo 3 1 1 = true := by decide +kernel
theorem pathUp_3_1_2 : pathUpGo 3 1 2 = true := by decide +kernel
theorem pathUp_3_2_0 : pathUpGo 3 2 0 = true := by decide +kernel
theorem pathUp_3_2_1 : pathUpGo 3 2 1 = true := by decide +kernel
theorem pathUp_3_2_2 : pathUpGo 3 2 2 = true := by decide +kernel
end Go.Proofs.YtpoekljclapbfaaDoor.Fin
