/- Cases of the law PathUp, each run in the kernel. -/
import Derived.Test.YtpoekljclapbfaaDoorFinPathUpB
namespace Go.Proofs.YtpoekljclapbfaaDoor.Fin
open Go.Proofs.YtpoekljclapbfaaDoor.Fast Go.RowKit
set_option linter.unusedVariables false
set_option maxRecDepth 1000000
theorem pathUp_11_9_0 : pathUpGo 11 9 0 = true := by decide +kernel
theorem pathUp_11_9_1 : pathUpGo 11 9 1 = true := by decide +kernel
theorem pathUp_11_9_2 : pathUpGo 11 9 2 = true := by decide +kernel
theorem pathUp_11_10_0 : pathUpGo 11 10 0 = true := by decide +kernel
theorem pathUp_11_10_1 : pathUpGo 11 10 1 = true := by decide +kernel
theorem pathUp_11_10_2 : pathUpGo 11 10 2 = true := by decide +kernel
theorem pathUp_11_11_0 : pathUpGo 11 11 0 = true := by decide +kernel
theorem pathUp_11_11_1 : pathUpGo 11 11 1 = true := by decide +kernel
theorem pathUp_11_11_2 : pathUpGo 11 11 2 = true := by decide +kernel
theorem pathUp_11_12_0 : pathUpGo 11 12 0 = true := by decide +kernel
theorem pathUp_11_12_1 : pathUpGo 11 12 1 = true := by decide +kernel
theorem pathUp_11_12_2 : pathUpGo 11 12 2 = true := by decide +kernel
theorem pathUp_11_13_0 : pathUpGo 11 13 0 = true := by decide +kernel
theorem pathUp_11_13_1 : pathUpGo 11 13 1 = true := by decide +kernel
theorem pathUp_11_13_2 : pathUpGo 11 13 2 = true := by decide +kernel
theorem pathUp_11_14_0 : pathUpGo 11 14 0 = true := by decide +kernel
theorem pathUp_11_14_1 : pathUpGo 11 14 1 = true := by decide +kernel
theorem pathUp_11_14_2 : pathUpGo 11 14 2 = true := by decide +kernel
end Go.Proofs.YtpoekljclapbfaaDoor.Fin
