/- Cases of the law PathUp, each run in the kernel. -/
import Derived.Test.YtpoekljclapbfaaDoorFinPathUpB
namespace Go.Proofs.YtpoekljclapbfaaDoor.Fin
open Go.Proofs.YtpoekljclapbfaaDoor.Fast Go.RowKit
set_option linter.unusedVariables false
set_option maxRecDepth 1000000
theorem pathUp_9_9_0 : pathUpGo 9 9 0 = true := by decide +kernel
theorem pathUp_9_9_1 : pathUpGo 9 9 1 = true := by decide +kernel
theorem pathUp_9_9_2 : pathUpGo 9 9 2 = true := by decide +kernel
theorem pathUp_9_10_0 : pathUpGo 9 10 0 = true := by decide +kernel
theorem pathUp_9_10_1 : pathUpGo 9 10 1 = true := by decide +kernel
theorem pathUp_9_10_2 : pathUpGo 9 10 2 = true := by decide +kernel
theorem pathUp_9_11_0 : pathUpGo 9 11 0 = true := by decide +kernel
theorem pathUp_9_11_1 : pathUpGo 9 11 1 = true := by decide +kernel
theorem pathUp_9_11_2 : pathUpGo 9 11 2 = true := by decide +kernel
theorem pathUp_9_12_0 : pathUpGo 9 12 0 = true := by decide +kernel
theorem pathUp_9_12_1 : pathUpGo 9 12 1 = true := by decide +kernel
theorem pathUp_9_12_2 : pathUpGo 9 12 2 = true := by decide +kernel
theorem pathUp_9_13_0 : pathUpGo 9 13 0 = true := by decide +kernel
theorem pathUp_9_13_1 : pathUpGo 9 13 1 = true := by decide +kernel
theorem pathUp_9_13_2 : pathUpGo 9 13 2 = true := by decide +kernel
theorem pathUp_9_14_0 : pathUpGo 9 14 0 = true := by decide +kernel
theorem pathUp_9_14_1 : pathUpGo 9 14 1 = true := by decide +kernel
theorem pathUp_9_14_2 : pathUpGo 9 14 2 = true := by decide +kernel
end Go.Proofs.YtpoekljclapbfaaDoor.Fin
