/- Cases of the law PathUp, each run in the kernel. -/
import Derived.Test.YtpoekljclapbfaaDoorFinPathUpB
namespace Go.Proofs.YtpoekljclapbfaaDoor.Fin
open Go.Proofs.YtpoekljclapbfaaDoor.Fast Go.RowKit
set_option linter.unusedVariables false
set_option maxRecDepth 1000000
theorem pathUp_8_6_0 : pathUpGo 8 6 0 = true := by decide +kernel
theorem pathUp_8_6_1 : pathUpGo 8 6 1 = true := by decide +kernel
theorem pathUp_8_6_2 : pathUpGo 8 6 2 = true := by decide +kernel
theorem pathUp_8_7_0 : pathUpGo 8 7 0 = true := by decide +kernel
theorem pathUp_8_7_1 : pathUpGo 8 7 1 = true := by decide +kernel
theorem pathUp_8_7_2 : pathUpGo 8 7 2 = true := by decide +kernel
theorem pathUp_8_8_0 : pathUpGo 8 8 0 = true := by decide +kernel
theorem pathUp_8_8_1 : pathUpGo 8 8 1 = true := by decide +kernel
theorem pathUp_8_8_2 : pathUpGo 8 8 2 = true := by decide +kernel
theorem pathUp_8_9_0 : pathUpGo 8 9 0 = true := by decide +kernel
theorem pathUp_8_9_1 : pathUpGo 8 9 1 = true := by decide +kernel
theorem pathUp_8_9_2 : pathUpGo 8 9 2 = true := by decide +kernel
theorem pathUp_8_10_0 : pathUpGo 8 10 0 = true := by decide +kernel
theorem pathUp_8_10_1 : pathUpGo 8 10 1 = true := by decide +kernel
theorem pathUp_8_10_2 : pathUpGo 8 10 2 = true := by decide +kernel
theorem pathUp_8_11_0 : pathUpGo 8 11 0 = true := by decide +kernel
theorem pathUp_8_11_1 : pathUpGo 8 11 1 = true := by decide +kernel
theorem pathUp_8_11_2 : pathUpGo 8 11 2 = true := by decide +kernel
end Go.Proofs.YtpoekljclapbfaaDoor.Fin
