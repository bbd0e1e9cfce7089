/- Cases of the law PathUp, each run in the kernel. -/
import Derived.Test.YtpoekljclapbfaaDoorFinPathUpB
namespace Go.Proofs.YtpoekljclapbfaaDoor.Fin
open Go.Proofs.YtpoekljclapbfaaDoor.Fast Go.RowKit
set_option linter.unusedVariables false
set_option maxRecDepth 1000000
theorem pathUp_1_9_0 : pathUpGo 1 9 0 = true := by decide +kernel
theorem pathUp_1_9_1 : pathUpGo 1 9 1 = true := by decide +kernel
theorem pathUp_1_9_2 : pathUpGo 1 9 2 = true := by decide +kernel
theorem pathUp_1_10_0 : pathUpGo 1 10 0 = true := by decide +kernel
theorem pathUp_1_10_1 : pathUpGo 1 10 1 = true := by decide +kernel
theorem pathUp_1_10_2 : pathUpGo 1 10 2 = true := by decide +kernel
theorem pathUp_1_11_0 : pathUpGo 1 11 0 = true := by decide +kernel
theorem pathUp_1_11_1 : pathUpGo 1 11 1 = true := by decide +kernel
theorem pathUp_1_11_2 : pathUpGo 1 11 2 = true := by decide +kernel
theorem pathUp_1_12_0 : pathUpGo 1 12 0 = true := by decide +kernel
theorem pathUp_1_12_1 : pathUpGo 1 12 1 = true := by decide +kernel
theorem pathUp_1_12_2 : pathUpGo 1 12 2 = true := by decide +kernel
theorem pathUp_1_13_0 : pathUpGo 1 13 0 = true := by decide +kernel
theorem pathUp_1_13_1 : pathUpGo 1 13 1 = true := by decide +kernel
theorem pathUp_1_13_2 : pathUpGo 1 13 2 = true := by decide +kernel
theorem pathUp_1_14_0 : pathUpGo 1 14 0 = true := by decide +kernel
theorem pathUp_1_14_1 : pathUpGo 1 14 1 = true := by decide +kernel
theorem pathUp_1_14_2 : pathUpGo 1 14 2 = true := by decide +kernel
end Go.Proofs.YtpoekljclapbfaaDoor.Fin
