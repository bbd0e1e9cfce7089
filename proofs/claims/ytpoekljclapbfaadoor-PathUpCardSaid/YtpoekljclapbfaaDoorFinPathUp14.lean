/- Cases of the law PathUp, each run in the kernel. -/
import Derived.Test.YtpoekljclapbfaaDoorFinPathUpB
namespace Go.Proofs.YtpoekljclapbfaaDoor.Fin
open Go.Proofs.YtpoekljclapbfaaDoor.Fast Go.RowKit
set_option linter.unusedVariables false
set_option maxRecDepth 1000000
theorem pathUp_5_9_0 : pathUpGo 5 9 0 = true := by decide +kernel
theorem pathUp_5_9_1 : pathUpGo 5 9 1 = true := by decide +kernel
theorem pathUp_5_9_2 : pathUpGo 5 9 2 = true := by decide +kernel
theorem pathUp_5_10_0 : pathUpGo 5 10 0 = true := by decide +kernel
theorem pathUp_5_10_1 : pathUpGo 5 10 1 = true := by decide +kernel
theorem pathUp_5_10_2 : pathUpGo 5 10 2 = true := by decide +kernel
theorem pathUp_5_11_0 : pathUpGo 5 11 0 = true := by decide +kernel
theorem pathUp_5_11_1 : pathUpGo 5 11 1 = true := by decide +kernel
theorem pathUp_5_11_2 : pathUpGo 5 11 2 = true := by decide +kernel
theorem pathUp_5_12_0 : pathUpGo 5 12 0 = true := by decide +kernel
theorem pathUp_5_12_1 : pathUpGo 5 12 1 = true := by decide +kernel
theorem pathUp_5_12_2 : pathUpGo 5 12 2 = true := by decide +kernel
theorem pathUp_5_13_0 : pathUpGo 5 13 0 = true := by decide +kernel
theorem pathUp_5_13_1 : pathUpGo 5 13 1 = true := by decide +kernel
theorem pathUp_5_13_2 : pathUpGo 5 13 2 = true := by decide +kernel
theorem pathUp_5_14_0 : pathUpGo 5 14 0 = true := by decide +kernel
theorem pathUp_5_14_1 : pathUpGo 5 14 1 = true := by decide +kernel
theorem pathUp_5_14_2 : pathUpGo 5 14 2 = true := by decide +kernel
end Go.Proofs.YtpoekljclapbfaaDoor.Fin
