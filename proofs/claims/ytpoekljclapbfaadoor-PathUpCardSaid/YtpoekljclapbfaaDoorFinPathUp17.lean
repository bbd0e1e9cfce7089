/- Cases of the law PathUp, each run in the kernel. -/
import Derived.Test.YtpoekljclapbfaaDoorFinPathUpB
namespace Go.Proofs.YtpoekljclapbfaaDoor.Fin
open Go.Proofs.YtpoekljclapbfaaDoor.Fast Go.RowKit
set_option linter.unusedVariables false
set_option maxRecDepth 1000000
theorem pathUp_6_12_0 : pathUpGo 6 12 0 = true := by decide +kernel
theorem pathUp_6_12_1 : pathUpGo 6 12 1 = true := by decide +kernel
theorem pathUp_6_12_2 : pathUpGo 6 12 2 = true := by decide +kernel
theorem pathUp_6_13_0 : pathUpGo 6 13 0 = true := by decide +kernel
theorem pathUp_6_13_1 : pathUpGo 6 13 1 = true := by decide +kernel
theorem pathUp_6_13_2 : pathUpGo 6 13 2 = true := by decide +kernel
theorem pathUp_6_14_0 : pathUpGo 6 14 0 = true := by decide +kernel
theorem pathUp_6_14_1 : pathUpGo 6 14 1 = true := by decide +kernel
theorem pathUp_6_14_2 : pathUpGo 6 14 2 = true := by decide +kernel
theorem pathUp_7_0_0 : pathUpGo 7 0 0 = true := by decide +kernel
theorem pathUp_7_0_1 : pathUpGo 7 0 1 = true := by decide +kernel
theorem pathUp_7_0_2 : pathUpGo 7 0 2 = true := by decide +kernel
theorem pathUp_7_1_0 : pathUpGo 7 1 0 = true := by decide +kernel
theorem pathUp_7_1_1 : pathUpGo 7 1 1 = true := by decide +kernel
theorem pathUp_7_1_2 : pathUpGo 7 1 2 = true := by decide +kernel
theorem pathUp_7_2_0 : pathUpGo 7 2 0 = true := by decide +kernel
theorem pathUp_7_2_1 : pathUpGo 7 2 1 = true := by decide +kernel
theorem pathUp_7_2_2 : pathUpGo 7 2 2 = true := by decide +kernel
end Go.Proofs.YtpoekljclapbfaaDoor.Fin
