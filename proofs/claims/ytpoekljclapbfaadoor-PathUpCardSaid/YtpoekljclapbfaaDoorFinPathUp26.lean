/- Cases of the law PathUp, each run in the kernel. -/
import Derived.Test.YtpoekljclapbfaaDoorFinPathUpB
namespace Go.Proofs.YtpoekljclapbfaaDoor.Fin
open Go.Proofs.YtpoekljclapbfaaDoor.Fast Go.RowKit
set_option linter.unusedVariables false
set_option maxRecDepth 1000000
theorem pathUp_10_6_0 : pathUpGo 10 6 0 = true := by decide +kernel
theorem pathUp_10_6_1 : pathUpGo 10 6 1 = true := by decide +kernel
theorem pathUp_10_6_2 : pathUpGo 10 6 2 = true := by decide +kernel
theorem pathUp_10_7_0 : pathUpGo 10 7 0 = true := by decide +kernel
theorem pathUp_10_7_1 : pathUpGo 10 7 1 = true := by decide +kernel
theorem pathUp_10_7_2 : pathUpGo 10 7 2 = true := by decide +kernel
theorem pathUp_10_8_0 : pathUpGo 10 8 0 = true := by decide +kernel
theorem pathUp_10_8_1 : pathUpGo 10 8 1 = true := by decide +kernel
theorem pathUp_10_8_2 : pathUpGo 10 8 2 = true := by decide +kernel
theorem pathUp_10_9_0 : pathUpGo 10 9 0 = true := by decide +kernel
theorem pathUp_10_9_1 : pathUpGo 10 9 1 = true := by decide +kernel
theorem pathUp_10_9_2 : pathUpGo 10 9 2 = true := by decide +kernel
theorem pathUp_10_10_0 : pathUpGo 10 10 0 = true := by decide +kernel
theorem pathUp_10_10_1 : pathUpGo 10 10 1 = true := by decide +kernel
theorem pathUp_10_10_2 : pathUpGo 10 10 2 = true := by decide +kernel
theorem pathUp_10_11_0 : pathUpGo 10 11 0 = true := by decide +kernel
theorem pathUp_10_11_1 : pathUpGo 10 11 1 = true := by decide +kernel
theorem pathUp_10_11_2 : pathUpGo 10 11 2 = true := by decide +kernel
end Go.Proofs.YtpoekljclapbfaaDoor.Fin
