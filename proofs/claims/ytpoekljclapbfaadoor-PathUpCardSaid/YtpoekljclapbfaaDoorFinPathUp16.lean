/- Cases of the law PathUp, each run in the kernel. -/
import Derived.Test.YtpoekljclapbfaaDoorFinPathUpB
namespace Go.Proofs.YtpoekljclapbfaaDoor.Fin
open Go.Proofs.YtpoekljclapbfaaDoor.Fast Go.RowKit
set_option linter.unusedVariables false
set_option maxRecDepth 1000000
theorem pathUp_6_6_0 : pathUpGo 6 6 0 = true := by decide +kernel
theorem pathUp_6_6_1 : pathUpGo 6 6 1 = true := by decide +kernel
theorem pathUp_6_6_2 : pathUpGo 6 6 2 = true := by decide +kernel
theorem pathUp_6_7_0 : pathUpGo 6 7 0 = true := by decide +kernel
theorem pathUp_6_7_1 : pathUpGo 6 7 1 = true := by decide +kernel
theorem pathUp_6_7_2 : pathUpGo 6 7 2 = true := by decide +kernel
theorem pathUp_6_8_0 : pathUpGo 6 8 0 = true := by decide +kernel
theorem pathUp_6_8_1 : pathUpGo 6 8 1 = true := by decide +kernel
theorem pathUp_6_8_2 : pathUpGo 6 8 2 = true := by decide +kernel
theorem pathUp_6_9_0 : pathUpGo 6 9 0 = true := by decide +kernel
theorem pathUp_6_9_1 : pathUpGo 6 9 1 = true := by decide +kernel
theorem pathUp_6_9_2 : pathUpGo 6 9 2 = true := by decide +kernel
theorem pathUp_6_10_0 : pathUpGo 6 10 0 = true := by decide +kernel
theorem pathUp_6_10_1 : pathUpGo 6 10 1 = true := by decide +kernel
theorem pathUp_6_10_2 : pathUpGo 6 10 2 = true := by decide +kernel
theorem pathUp_6_11_0 : pathUpGo 6 11 0 = true := by decide +kernel
theorem pathUp_6_11_1 : pathUpGo 6 11 1 = true := by decide +kernel
theorem pathUp_6_11_2 : pathUpGo 6 11 2 = true := by decide +kernel
end Go.Proofs.YtpoekljclapbfaaDoor.Fin
