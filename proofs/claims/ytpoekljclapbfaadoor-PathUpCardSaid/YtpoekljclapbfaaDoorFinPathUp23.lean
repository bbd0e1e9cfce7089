/- Cases of the law PathUp, each run in the kernel. -/
import Derived.Test.YtpoekljclapbfaaDoorFinPathUpB
namespace Go.Proofs.YtpoekljclapbfaaDoor.Fin
open Go.Proofs.YtpoekljclapbfaaDoor.Fast Go.RowKit
set_option linter.unusedVariables false
set_option maxRecDepth 1000000
theorem pathUp_9_3_0 : pathUpGo 9 3 0 = true := by decide +kernel
theorem pathUp_9_3_1 : pathUpGo 9 3 1 = true := by decide +kernel
theorem pathUp_9_3_2 : pathUpGo 9 3 2 = true := by decide +kernel
theorem pathUp_9_4_0 : pathUpGo 9 4 0 = true := by decide +kernel
theorem pathUp_9_4_1 : pathUpGo 9 4 1 = true := by decide +kernel
theorem pathUp_9_4_2 : pathUpGo 9 4 2 = true := by decide +kernel
theorem pathUp_9_5_0 : pathUpGo 9 5 0 = true := by decide +kernel
theorem pathUp_9_5_1 : pathUpGo 9 5 1 = true := by decide +kernel
theorem pathUp_9_5_2 : pathUpGo 9 5 2 = true := by decide +kernel
theorem pathUp_9_6_0 : pathUpGo 9 6 0 = true := by decide +kernel
theorem pathUp_9_6_1 : pathUpGo 9 6 1 = true := by decide +kernel
theorem pathUp_9_6_2 : pathUpGo 9 6 2 = true := by decide +kernel
theorem pathUp_9_7_0 : pathUpGo 9 7 0 = true := by decide +kernel
theorem pathUp_9_7_1 : pathUpGo 9 7 1 = true := by decide +kernel
theorem pathUp_9_7_2 : pathUpGo 9 7 2 = true := by decide +kernel
theorem pathUp_9_8_0 : pathUpGo 9 8 0 = true := by decide +kernel
theorem pathUp_9_8_1 : pathUpGo 9 8 1 = true := by decide +kernel
theorem pathUp_9_8_2 : pathUpGo 9 8 2 = true := by decide +kernel
end Go.Proofs.YtpoekljclapbfaaDoor.Fin
