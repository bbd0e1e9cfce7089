/- Cases of the law PathUp, each run in the kernel. -/
import Derived.Test.YtpoekljclapbfaaDoorFinPathUpB
namespace Go.Proofs.YtpoekljclapbfaaDoor.Fin
open Go.Proofs.YtpoekljclapbfaaDoor.Fast Go.RowKit
set_option linter.unusedVariables false
set_option maxRecDepth 1000000
theorem pathUp_7_9_0 : pathUpGo 7 9 0 = true := by decide +kernel
theorem pathUp_7_9_1 : pathUpGo 7 9 1 = true := by decide +kernel
theorem pathUp_7_9_2 : pathUpGo 7 9 2 = true := by decide +kernel
theorem pathUp_7_10_0 : pathUpGo 7 10 0 = true := by decide +kernel
theorem pathUp_7_10_1 : pathUpGo 7 10 1 = true := by decide +kernel
theorem pathUp_7_10_2 : pathUpGo 7 10 2 = true := by decide +kernel
theorem pathUp_7_11_0 : pathUpGo 7 11 0 = true := by decide +kernel
theorem pathUp_7_11_1 : pathUpGo 7 11 1 = true := by decide +kernel
theorem pathUp_7_11_2 : pathUpGo 7 11 2 = true := by decide +kernel
theorem pathUp_7_12_0 : pathUpGo 7 12 0 = true := by decide +kernel
theorem pathUp_7_12_1 : pathUpGo 7 12 1 = true := by decide +kernel
theorem pathUp_7_12_2 : pathUpGo 7 12 2 = true := by decide +kernel
theorem pathUp_7_13_0 : pathUpGo 7 13 0 = true := by decide +kernel
theorem pathUp_7_13_1 : pathUpGo 7 13 1 = true := by decide +kernel
theorem pathUp_7_13_2 : pathUpGo 7 13 2 = true := by decide +kernel
theorem pathUp_7_14_0 : pathUpGo 7 14 0 = true := by decide +kernel
theorem pathUp_7_14_1 : pathUpGo 7 14 1 = true := by decide +kernel
theorem pathUp_7_14_2 : pathUpGo 7 14 2 = true := by decide +kernel
end Go.Proofs.YtpoekljclapbfaaDoor.Fin
