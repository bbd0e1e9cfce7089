/- Cases of the law PathUp, each run in the kernel. -/
import Derived.Test.YtpoekljclapbfaaDoorFinPathUpB
namespace Go.Proofs.YtpoekljclapbfaaDoor.Fin
open Go.Proofs.YtpoekljclapbfaaDoor.Fast Go.RowKit
set_option linter.unusedVariables false
set_option maxRecDepth 1000000
theorem pathUp_0_0_0 : pathUpGo 0 0 0 = true := by decide +kernel
theorem pathUp_0_0_1 : pathUpGo 0 0 1 = true := by decide +kernel
theorem pathUp_0_0_2 : pathUpGo 0 0 2 = true := by decide +kernel
theorem pathUp_0_1_0 : pathUpGo 0 1 0 = true := by decide +kernel
theorem pathUp_0_1_1 : pathUpGo 0 1 1 = true := by decide +kernel
theorem pathUp_0_1_2 : pathUpGo 0 1 2 = true := by decide +kernel
theorem pathUp_0_2_0 : pathUpGo 0 2 0 = true := by decide +kernel
theorem pathUp_0_2_1 : pathUpGo 0 2 1 = true := by decide +kernel
theorem pathUp_0_2_2 : pathUpGo 0 2 2 = true := by decide +kernel
theorem pathUp_0_3_0 : pathUpGo 0 3 0 = true := by decide +kernel
theorem pathUp_0_3_1 : pathUpGo 0 3 1 = true := by decide +kernel
theorem pathUp_0_3_2 : pathUpGo 0 3 2 = true := by decide +kernel
theorem pathUp_0_4_0 : pathUpGo 0 4 0 = true := by decide +kernel
theorem pathUp_0_4_1 : pathUpGo 0 4 1 = true := by decide +kernel
theorem pathUp_0_4_2 : pathUpGo 0 4 2 = true := by decide +kernel
theorem pathUp_0_5_0 : pathUpGo 0 5 0 = true := by decide +kernel
theorem pathUp_0_5_1 : pathUpGo 0 5 1 = true := by decide +kernel
theorem pathUp_0_5_2 : pathUpGo 0 5 2 = true := by decide +kernel
end Go.Proofs.YtpoekljclapbfaaDoor.Fin
