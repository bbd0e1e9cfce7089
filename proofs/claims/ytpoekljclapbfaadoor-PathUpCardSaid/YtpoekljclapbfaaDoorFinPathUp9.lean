/- Cases of the law PathUp, each run in the kernel. -/
import Derived.Test.YtpoekljclapbfaaDoorFinPathUpB
namespace Go.Proofs.YtpoekljclapbfaaDoor.Fin
open Go.Proofs.YtpoekljclapbfaaDoor.Fast Go.RowKit
set_option linter.unusedVariables false
set_option maxRecDepth 1000000
theorem pathUp_3_9_0 : pathUpGo 3 9 0 = true := by decide +kernel
theorem pathUp_3_9_1 : pathUpGo 3 9 1 = true := by decide +kernel
theorem pathUp_3_9_2 : pathUpGo 3 9 2 = true := by decide +kernel
theorem pathUp_3_10_0 : pathUpGo 3 10 0 = true := by decide +kernel
theorem pathUp_3_10_1 : pathUpGo 3 10 1 = true := by decide +kernel
theorem pathUp_3_10_2 : pathUpGo 3 10 2 = true := by decide +kernel
theorem pathUp_3_11_0 : pathUpGo 3 11 0 = true := by decide +kernel
theorem pathUp_3_11_1 : pathUpGo 3 11 1 = true := by decide +kernel
theorem pathUp_3_11_2 : pathUpGo 3 11 2 = true := by decide +kernel
theorem pathUp_3_12_0 : pathUpGo 3 12 0 = true := by decide +kernel
theorem pathUp_3_12_1 : pathUpGo 3 12 1 = true := by decide +kernel
theorem pathUp_3_12_2 : pathUpGo 3 12 2 = true := by decide +kernel
theorem pathUp_3_13_0 : pathUpGo 3 13 0 = true := by decide +kernel
theorem pathUp_3_13_1 : pathUpGo 3 13 1 = true := by decide +kernel
theorem pathUp_3_13_2 : pathUpGo 3 13 2 = true := by decide +kernel
theorem pathUp_3_14_0 : pathUpGo 3 14 0 = true := by decide +kernel
theorem pathUp_3_14_1 : pathUpGo 3 14 1 = true := by decide +kernel
theorem pathUp_3_14_2 : pathUpGo 3 14 2 = true := by decide +kernel
end Go.Proofs.YtpoekljclapbfaaDoor.Fin
