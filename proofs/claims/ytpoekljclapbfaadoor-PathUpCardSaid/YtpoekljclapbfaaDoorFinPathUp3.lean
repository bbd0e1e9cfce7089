/- Cases of the law PathUp, each run in the kernel. -/
import Derived.Test.YtpoekljclapbfaaDoorFinPathUpB
namespace Go.Proofs.YtpoekljclapbfaaDoor.Fin
open Go.Proofs.YtpoekljclapbfaaDoor.Fast Go.RowKit
set_option linter.unusedVariables false
set_option maxRecDepth 1000000
theorem pathUp_1_3_0 : pathUpGo 1 3 0 = true := by decide +kernel
theorem pathUp_1_3_1 : pathUpGo 1 3 1 = true := by decide +kernel
theorem pathUp_1_3_2 : pathUpGo 1 3 2 = true := by decide +kernel
theorem pathUp_1_4_0 : pathUpGo 1 4 0 = true := by decide +kernel
theorem pathUp_1_4_1 : pathUpGo 1 4 1 = true := by decide +kernel
theorem pathUp_1_4_2 : pathUpGo 1 4 2 = true := by decide +kernel
theorem pathUp_1_5_0 : pathUpGo 1 5 0 = true := by decide +kernel
theorem pathUp_1_5_1 : pathUpGo 1 5 1 = true := by decide +kernel
theorem pathUp_1_5_2 : pathUpGo 1 5 2 = true := by decide +kernel
theorem pathUp_1_6_0 : pathUpGo 1 6 0 = true := by decide +kernel
theorem pathUp_1_6_1 : pathUpGo 1 6 1 = true := by decide +kernel
theorem pathUp_1_6_2 : pathUpGo 1 6 2 = true := by decide +kernel
theorem pathUp_1_7_0 : pathUpGo 1 7 0 = true := by decide +kernel
theorem pathUp_1_7_1 : pathUpGo 1 7 1 = true := by decide +kernel
theorem pathUp_1_7_2 : pathUpGo 1 7 2 = true := by decide +kernel
theorem pathUp_1_8_0 : pathUpGo 1 8 0 = true := by decide +kernel
theorem pathUp_1_8_1 : pathUpGo 1 8 1 = true := by decide +kernel
theorem pathUp_1_8_2 : pathUpGo 1 8 2 = true := by decide +kernel
end Go.Proofs.YtpoekljclapbfaaDoor.Fin
