/- Cases of the law PathUp, each run in the kernel. -/
import Derived.Test.YtpoekljclapbfaaDoorFinPathUpB
namespace Go.Proofs.YtpoekljclapbfaaDoor.Fin
open Go.Proofs.YtpoekljclapbfaaDoor.Fast Go.RowKit
set_option linter.unusedVariables false
set_option maxRecDepth 1000000
theorem pathUp_4_6_0 : pathUpGo 4 6 0 = true := by decide +kernel
theorem pathUp_4_6_1 : pathUpGo 4 6 1 = true := by decide +kernel
theorem pathUp_4_6_2 : pathUpGo 4 6 2 = true := by decide +kernel
theorem pathUp_4_7_0 : pathUpGo 4 7 0 = true := by decide +kernel
theorem pathUp_4_7_1 : pathUpGo 4 7 1 = true := by decide +kernel
theorem pathUp_4_7_2 : pathUpGo 4 7 2 = true := by decide +kernel
theorem pathUp_4_8_0 : pathUpGo 4 8 0 = true := by decide +kernel
theorem pathUp_4_8_1 : pathUpGo 4 8 1 = true := by decide +kernel
theorem pathUp_4_8_2 : pathUpGo 4 8 2 = true := by decide +kernel
theorem pathUp_4_9_0 : pathUpGo 4 9 0 = true := by decide +kernel
theorem pathUp_4_9_1 : pathUpGo 4 9 1 = true := by decide +kernel
theorem pathUp_4_9_2 : pathUpGo 4 9 2 = true := by decide +kernel
theorem pathUp_4_10_0 : pathUpGo 4 10 0 = true := by decide +kernel
theorem pathUp_4_10_1 : pathUpGo 4 10 1 = true := by decide +kernel
theorem pathUp_4_10_2 : pathUpGo 4 10 2 = true := by decide +kernel
theorem pathUp_4_11_0 : pathUpGo 4 11 0 = true := by decide +kernel
theorem pathUp_4_11_1 : pathUpGo 4 11 1 = true := by decide +kernel
theorem pathUp_4_11_2 : pathUpGo 4 11 2 = true := by decide +kernel
end Go.Proofs.YtpoekljclapbfaaDoor.Fin
