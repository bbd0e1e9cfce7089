/- Cases of the law PathUp, each run in the kernel. -/
import Derived.Test.YtpoekljclapbfaaDoorFinPathUpB
namespace Go.Proofs.YtpoekljclapbfaaDoor.Fin
open Go.Proofs.YtpoekljclapbfaaDoor.Fast Go.RowKit
set_option linter.unusedVariables false
set_option maxRecDepth 1000000
theorem pathUp_10_12_0 : pathUpGo 10 12 0 = true := by decide +kernel
theorem pathUp_10_12_1 : pathUpGo 10 12 1 = true := by decide +kernel
theorem pathUp_10_12_2 : pathUpGo 10 12 2 = true := by decide +kernel
theorem pathUp_10_13_0 : pathUpGo 10 13 0 = true := by decide +kernel
theorem pathUp_10_13_1 : pathUpGo 10 13 1 = true := by decide +kernel
theorem pathUp_10_13_2 : pathUpGo 10 13 2 = true := by decide +kernel
theorem pathUp_10_14_0 : pathUpGo 10 14 0 = true := by decide +kernel
theorem pathUp_10_14_1 : pathUpGo 10 14 1 = true := by decide +kernel
theorem pathUp_10_14_2 : pathUpGo 10 14 2 = true := by decide +kernel
theorem pathUp_11_0_0 : pathUpGo 11 0 0 = true := by decide +kernel
theorem pathUp_11_0_1 : pathUpGo 11 0 1 = true := by decide +kernel
theorem pathUp_11_0_2 : pathUpGo 11 0 2 = true := by decide +kernel
theorem pathUp_11_1_0 : pathUpGo 11 1 0 = true := by decide +kernel
theorem pathUp_11_1_1 : pathUpGo 11 1 1 = true := by decide +kernel
theorem pathUp_11_1_2 : pathUpGo 11 1 2 = true := by decide +kernel
theorem pathUp_11_2_0 : pathUpGo 11 2 0 = true := by decide +kernel
theorem pathUp_11_2_1 : pathUpGo 11 2 1 = true := by decide +kernel
theorem pathUp_11_2_2 : pathUpGo 11 2 2 = true := by decide +kernel
end Go.Proofs.YtpoekljclapbfaaDoor.Fin
