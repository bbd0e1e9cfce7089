/- Cases of the law PathUp, each run in the kernel. -/
import Derived.Test.YtpoekljclapbfaaDoorFinPathUpB
namespace Go.Proofs.YtpoekljclapbfaaDoor.Fin
open Go.Proofs.YtpoekljclapbfaaDoor.Fast Go.RowKit
set_option linter.unusedVariables false
set_option maxRecDepth 1000000
theorem pathUp_0_6_0 : pathUpGo 0 6 0 = true := by decide +kernel
theorem pathUp_0_6_1 : pathUpGo 0 6 1 = true := by decide +kernel
theorem pathUp_0_6_2 : pathUpGo 0 6 2 = true := by decide +kernel
theorem pathUp_0_7_0 : pathUpGo 0 7 0 = true := by decide +kernel
theorem pathUp_0_7_1 : pathUpGo 0 7 1 = true := by decide +kernel
theorem pathUp_0_7_2 : pathUpGo 0 7 2 = true := by decide +kernel
theorem pathUp_0_8_0 : pathUpGo 0 8 0 = true := by decide +kernel
theorem pathUp_0_8_1 : pathUpGo 0 8 1 = true := by decide +kernel
theorem pathUp_0_8_2 : pathUpGo 0 8 2 = true := by decide +kernel
theorem pathUp_0_9_0 : pathUpGo 0 9 0 = true := by decide +kernel
theorem pathUp_0_9_1 : pathUpGo 0 9 1 = true := by decide +kernel
theorem pathUp_0_9_2 : pathUpGo 0 9 2 = true := by decide +kernel
theorem pathUp_0_10_0 : pathUpGo 0 10 0 = true := by decide +kernel
theorem pathUp_0_10_1 : pathUpGo 0 10 1 = true := by decide +kernel
theorem pathUp_0_10_2 : pathUpGo 0 10 2 = true := by decide +kernel
theorem pathUp_0_11_0 : pathUpGo 0 11 0 = true := by decide +kernel
theorem pathUp_0_11_1 : pathUpGo 0 11 1 = true := by decide +kernel
theorem pathUp_0_11_2 : pathUpGo 0 11 2 = true := by decide +kernel
end Go.Proofs.YtpoekljclapbfaaDoor.Fin
