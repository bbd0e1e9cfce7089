/- Cases of the law PathUp, each run in the kernel. -/
import Derived.Test.YtpoekljclapbfaaDoorFinPathUpB
namespace Go.Proofs.YtpoekljclapbfaaDoor.Fin
open Go.Proofs.YtpoekljclapbfaaDoor.Fast Go.RowKit
set_option linter.unusedVariables false
set_option maxRecDepth 1000000
theorem pathUp_2_6_0 : pathUpGo 2 6 0 = true := by decide +kernel
theorem pathUp_2_6_1 : pathUpGo 2 6 1 = true := by decide +kernel
theorem pathUp_2_6_2 : pathUpGo 2 6 2 = true := by decide +kernel
theorem pathUp_2_7_0 : pathUpGo 2 7 0 = true := by decide +kernel
theorem pathUp_2_7_1 : pathUpGo 2 7 1 = true := by decide +kernel
theorem pathUp_2_7_2 : pathUpGo 2 7 2 = true := by decide +kernel
theorem pathUp_2_8_0 : pathUpGo 2 8 0 = true := by decide +kernel
theorem pathUp_2_8_1 : pathUpGo 2 8 1 = true := by decide +kernel
theorem pathUp_2_8_2 : pathUpGo 2 8 2 = true := by decide +kernel
theorem pathUp_2_9_0 : pathUpGo 2 9 0 = true := by decide +kernel
theorem pathUp_2_9_1 : pathUpGo 2 9 1 = true := by decide +kernel
theorem pathUp_2_9_2 : pathUpGo 2 9 2 = true := by decide +kernel
theorem pathUp_2_10_0 : pathUpGo 2 10 0 = true := by decide +kernel
theorem pathUp_2_10_1 : pathUpGo 2 10 1 = true := by decide +kernel
theorem pathUp_2_10_2 : pathUpGo 2 10 2 = true := by decide +kernel
theorem pathUp_2_11_0 : pathUpGo 2 11 0 = true := by decide +kernel
theorem pathUp_2_11_1 : pathUpGo 2 11 1 = true := by decide +kernel
theorem pathUp_2_11_2 : pathUpGo 2 11 2 = true := by decide +kernel
end Go.Proofs.YtpoekljclapbfaaDoor.Fin
