/- Cases of the law PathUp, each run in the kernel. -/
import Derived.Test.YtpoekljclapbfaaDoorFinPathUpB
namespace Go.Proofs.YtpoekljclapbfaaDoor.Fin
open Go.Proofs.YtpoekljclapbfaaDoor.Fast Go.RowKit
set_option linter.unusedVariables false
set_option maxRecDepth 1000000
theorem pathUp_8_0_0 : pathUpGo 8 0 0 = true := by decide +kernel
theorem pathUp_8_0_1 : pathUpGo 8 0 1 = true := by decide +kernel
theorem pathUp_8_0_2 : pathUpGo 8 0 2 = true := by decide +kernel
theorem pathUp_8_1_0 : pathUpGo 8 1 0 = true := by decide +kernel
theorem pathUp_8_1_1 : pathUpGo 8 1 1 = true := by decide +kernel
theorem pathUp_8_1_2 : pathUpGo 8 1 2 = true := by decide +kernel
theorem pathUp_8_2_0 : pathUpGo 8 2 0 = true := by decide +kernel
theorem pathUp_8_2_1 : pathUpGo 8 2 1 = true := by decide +kernel
theorem pathUp_8_2_2 : pathUpGo 8 2 2 = true := by decide +kernel
theorem pathUp_8_3_0 : pathUpGo 8 3 0 = true := by decide +kernel
theorem pathUp_8_3_1 : pathUpGo 8 3 1 = true := by decide +kernel
theorem pathUp_8_3_2 : pathUpGo 8 3 2 = true := by decide +kernel
theorem pathUp_8_4_0 : pathUpGo 8 4 0 = true := by decide +kernel
theorem pathUp_8_4_1 : pathUpGo 8 4 1 = true := by decide +kernel
theorem pathUp_8_4_2 : pathUpGo 8 4 2 = true := by decide +kernel
theorem pathUp_8_5_0 : pathUpGo 8 5 0 = true := by decide +kernel
theorem pathUp_8_5_1 : pathUpGo 8 5 1 = true := by decide +kernel
theorem pathUp_8_5_2 : pathUpGo 8 5 2 = true := by decide +kernel
end Go.Proofs.YtpoekljclapbfaaDoor.Fin
