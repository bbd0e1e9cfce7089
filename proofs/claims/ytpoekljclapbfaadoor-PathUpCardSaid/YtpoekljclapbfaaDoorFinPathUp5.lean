/- Cases of the law PathUp, each run in the kernel. -/
import Derived.Test.YtpoekljclapbfaaDoorFinPathUpB
namespace Go.Proofs.YtpoekljclapbfaaDoor.Fin
open Go.Proofs.YtpoekljclapbfaaDoor.Fast Go.RowKit
set_option linter.unusedVariables false
set_option maxRecDepth 1000000
theorem pathUp_2_0_0 : pathUpGo 2 0 0 = true := by decide +kernel
theorem pathUp_2_0_1 : pathUpGo 2 0 1 = true := by decide +kernel
theorem pathUp_2_0_2 : pathUpGo 2 0 2 = true := by decide +kernel
theorem pathUp_2_1_0 : pathUpGo 2 1 0 = true := by decide +kernel
theorem pathUp_2_1_1 : pathUpGo 2 1 1 = true := by decide +kernel
theorem pathUp_2_1_2 : pathUpGo 2 1 2 = true := by decide +kernel
theorem pathUp_2_2_0 : pathUpGo 2 2 0 = true := by decide +kernel
theorem pathUp_2_2_1 : pathUpGo 2 2 1 = true := by decide +kernel
theorem pathUp_2_2_2 : pathUpGo 2 2 2 = true := by decide +kernel
theorem pathUp_2_3_0 : pathUpGo 2 3 0 = true := by decide +kernel
theorem pathUp_2_3_1 : pathUpGo 2 3 1 = true := by decide +kernel
theorem pathUp_2_3_2 : pathUpGo 2 3 2 = true := by decide +kernel
theorem pathUp_2_4_0 : pathUpGo 2 4 0 = true := by decide +kernel
theorem pathUp_2_4_1 : pathUpGo 2 4 1 = true := by decide +kernel
theorem pathUp_2_4_2 : pathUpGo 2 4 2 = true := by decide +kernel
theorem pathUp_2_5_0 : pathUpGo 2 5 0 = true := by decide +kernel
theorem pathUp_2_5_1 : pathUpGo 2 5 1 = true := by decide +kernel
theorem pathUp_2_5_2 : pathUpGo 2 5 2 = true := by decide +kernel
end Go.Proofs.YtpoekljclapbfaaDoor.Fin
