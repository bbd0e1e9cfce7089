/- Cases of the law PathUp, each run in the kernel. -/
import Derived.Test.YtpoekljclapbfaaDoorFinPathUpB
namespace Go.Proofs.YtpoekljclapbfaaDoor.Fin
open Go.Proofs.YtpoekljclapbfaaDoor.Fast Go.RowKit
set_option linter.unusedVariables false
set_option maxRecDepth 1000000
theorem pathUp_3_3_0 : pathUpGo 3 3 0 = true := by decide +kernel
theorem pathUp_3_3_1 : pathUpGo 3 3 1 = true := by decide +kernel
theorem pathUp_3_3_2 : pathUpGo 3 3 2 = true := by decide +kernel
theorem pathUp_3_4_0 : pathUpGo 3 4 0 = true := by decide +kernel
theorem pathUp_3_4_1 : pathUpGo 3 4 1 = true := by decide +kernel
theorem pathUp_3_4_2 : pathUpGo 3 4 2 = true := by decide +kernel
theorem pathUp_3_5_0 : pathUpGo 3 5 0 = true := by decide +kernel
theorem pathUp_3_5_1 : pathUpGo 3 5 1 = true := by decide +kernel
theorem pathUp_3_5_2 : pathUpGo 3 5 2 = true := by decide +kernel
theorem pathUp_3_6_0 : pathUpGo 3 6 0 = true := by decide +kernel
theorem pathUp_3_6_1 : pathUpGo 3 6 1 = true := by decide +kernel
theorem pathUp_3_6_2 : pathUpGo 3 6 2 = true := by decide +kernel
theorem pathUp_3_7_0 : pathUpGo 3 7 0 = true := by decide +kernel
theorem pathUp_3_7_1 : pathUpGo 3 7 1 = true := by decide +kernel
theorem pathUp_3_7_2 : pathUpGo 3 7 2 = true := by decide +kernel
theorem pathUp_3_8_0 : pathUpGo 3 8 0 = true := by decide +kernel
theorem pathUp_3_8_1 : pathUpGo 3 8 1 = true := by decide +kernel
theorem pathUp_3_8_2 : pathUpGo 3 8 2 = true := by decide +kernel
end Go.Proofs.YtpoekljclapbfaaDoor.Fin
