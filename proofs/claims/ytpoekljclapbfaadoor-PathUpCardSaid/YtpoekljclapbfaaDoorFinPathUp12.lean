/- Cases of the law PathUp, each run in the kernel. -/
import Derived.Test.YtpoekljclapbfaaDoorFinPathUpB
namespace Go.Proofs.YtpoekljclapbfaaDoor.Fin
open Go.Proofs.YtpoekljclapbfaaDoor.Fast Go.RowKit
set_option linter.unusedVariables false
set_option maxRecDepth 1000000
theorem pathUp_4_12_0 : pathUpGo 4 12 0 = true := by decide +kernel
theorem pathUp_4_12_1 : pathUpGo 4 12 1 = true := by decide +kernel
theorem pathUp_4_12_2 : pathUpGo 4 12 2 = true := by decide +kernel
theorem pathUp_4_13_0 : pathUpGo 4 13 0 = true := by decide +kernel
theorem pathUp_4_13_1 : pathUpGo 4 13 1 = true := by decide +kernel
theorem pathUp_4_13_2 : pathUpGo 4 13 2 = true := by decide +kernel
theorem pathUp_4_14_0 : pathUpGo 4 14 0 = true := by decide +kernel
theorem pathUp_4_14_1 : pathUpGo 4 14 1 = true := by decide +kernel
theorem pathUp_4_14_2 : pathUpGo 4 14 2 = true := by decide +kernel
theorem pathUp_5_0_0 : pathUpGo 5 0 0 = true := by decide +kernel
theorem pathUp_5_0_1 : pathUpGo 5 0 1 = true := by decide +kernel
theorem pathUp_5_0_2 : pathUpGo 5 0 2 = true := by decide +kernel
theorem pathUp_5_1_0 : pathUpGo 5 1 0 = true := by decide +kernel
theorem pathUp_5_1_1 : pathUpGo 5 1 1 = true := by decide +kernel
theorem pathUp_5_1_2 : pathUpGo 5 1 2 = true := by decide +kernel
theorem pathUp_5_2_0 : pathUpGo 5 2 0 = true := by decide +kernel
theorem pathUp_5_2_1 : pathUpGo 5 2 1 = true := by decide +kernel
theorem pathUp_5_2_2 : pathUpGo 5 2 2 = true := by decide +kernel
end Go.Proofs.YtpoekljclapbfaaDoor.Fin
