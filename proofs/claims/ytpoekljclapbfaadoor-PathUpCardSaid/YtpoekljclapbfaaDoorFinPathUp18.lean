/- Cases of the law PathUp, each run in the kernel. -/
import Derived.Test.YtpoekljclapbfaaDoorFinPathUpB
namespace Go.Proofs.YtpoekljclapbfaaDoor.Fin
open Go.Proofs.YtpoekljclapbfaaDoor.Fast Go.RowKit
set_option linter.unusedVariables false
set_option maxRecDepth 1000000
theorem pathUp_7_3_0 : pathUpGo 7 3 0 = true := by decide +kernel
theorem pathUp_7_3_1 : pathUpGo 7 3 1 = true := by decide +kernel
theorem pathUp_7_3_2 : pathUpGo 7 3 2 = true := by decide +kernel
theorem pathUp_7_4_0 : pathUpGo 7 4 0 = true := by decide +kernel
theorem pathUp_7_4_1 : pathUpGo 7 4 1 = true := by decide +kernel
theorem pathUp_7_4_2 : pathUpGo 7 4 2 = true := by decide +kernel
theorem pathUp_7_5_0 : pathUpGo 7 5 0 = true := by decide +kernel
theorem pathUp_7_5_1 : pathUpGo 7 5 1 = true := by decide +kernel
theorem pathUp_7_5_2 : pathUpGo 7 5 2 = true := by decide +kernel
theorem pathUp_7_6_0 : pathUpGo 7 6 0 = true := by decide +kernel
theorem pathUp_7_6_1 : pathUpGo 7 6 1 = true := by decide +kernel
theorem pathUp_7_6_2 : pathUpGo 7 6 2 = true := by decide +kernel
theorem pathUp_7_7_0 : pathUpGo 7 7 0 = true := by decide +kernel
theorem pathUp_7_7_1 : pathUpGo 7 7 1 = true := by decide +kernel
theorem pathUp_7_7_2 : pathUpGo 7 7 2 = true := by decide +kernel
theorem pathUp_7_8_0 : pathUpGo 7 8 0 = true := by decide +kernel
theorem pathUp_7_8_1 : pathUpGo 7 8 1 = true := by decide +kernel
theorem pathUp_7_8_2 : pathUpGo 7 8 2 = true := by decide +kernel
end Go.Proofs.YtpoekljclapbfaaDoor.Fin
