/- Cases of the law PathUp, each run in the kernel. -/
import Derived.Test.YtpoekljclapbfaaDoorFinPathUpB
namespace Go.Proofs.YtpoekljclapbfaaDoor.Fin
open Go.Proofs.YtpoekljclapbfaaDoor.Fast Go.RowKit
set_option linter.unusedVariables false
set_option maxRecDepth 1000000
theorem pathUp_5_3_0 : pathUpGo 5 3 0 = true := by decide +kernel
theorem pathUp_5_3_1 : pathUpGo 5 3 1 = true := by decide +kernel
theorem pathUp_5_3_2 : pathUpGo 5 3 2 = true := by decide +kernel
theorem pathUp_5_4_0 : pathUpGo 5 4 0 = true := by decide +kernel
theorem pathUp_5_4_1 : pathUpGo 5 4 1 = true := by decide +kernel
theorem pathUp_5_4_2 : pathUpGo 5 4 2 = true := by decide +kernel
theorem pathUp_5_5_0 : pathUpGo 5 5 0 = true := by decide +kernel
theorem pathUp_5_5_1 : pathUpGo 5 5 1 = true := by decide +kernel
theorem pathUp_5_5_2 : pathUpGo 5 5 2 = true := by decide +kernel
theorem pathUp_5_6_0 : pathUpGo 5 6 0 = true := by decide +kernel
theorem pathUp_5_6_1 : pathUpGo 5 6 1 = true := by decide +kernel
theorem pathUp_5_6_2 : pathUpGo 5 6 2 = true := by decide +kernel
theorem pathUp_5_7_0 : pathUpGo 5 7 0 = true := by decide +kernel
theorem pathUp_5_7_1 : pathUpGo 5 7 1 = true := by decide +kernel
theorem pathUp_5_7_2 : pathUpGo 5 7 2 = true := by decide +kernel
theorem pathUp_5_8_0 : pathUpGo 5 8 0 = true := by decide +kernel
theorem pathUp_5_8_1 : pathUpGo 5 8 1 = true := by decide +kernel
theorem pathUp_5_8_2 : pathUpGo 5 8 2 = true := by decide +kernel
end Go.Proofs.YtpoekljclapbfaaDoor.Fin
