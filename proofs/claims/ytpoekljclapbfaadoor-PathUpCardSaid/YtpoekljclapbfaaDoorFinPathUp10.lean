/- Cases of the law PathUp, each run in the kernel. -/
import Derived.Test.YtpoekljclapbfaaDoorFinPathUpB
namespace Go.Proofs.YtpoekljclapbfaaDoor.Fin
open Go.Proofs.YtpoekljclapbfaaDoor.Fast Go.RowKit
set_option linter.unusedVariables false
set_option maxRecDepth 1000000
theorem pathUp_4_0_0 : pathUpGo 4 0 0 = true := by decide +kernel
theorem pathUp_4_0_1 : pathUpGo 4 0 1 = true := by decide +kernel
theorem pathUp_4_0_2 : pathUpGo 4 0 2 = true := by decide +kernel
theorem pathUp_4_1_0 : pathUpGo 4 1 0 = true := by decide +kernel
theorem pathUp_4_1_1 : pathUpGo 4 1 1 = true := by decide +kernel
theorem pathUp_4_1_2 : pathUpGo 4 1 2 = true := by decide +kernel
theorem pathUp_4_2_0 : pathUpGo 4 2 0 = true := by decide +kernel
theorem pathUp_4_2_1 : pathUpGo 4 2 1 = true := by decide +kernel
theorem pathUp_4_2_2 : pathUpGo 4 2 2 = true := by decide +kernel
theorem pathUp_4_3_0 : pathUpGo 4 3 0 = true := by decide +kernel
theorem pathUp_4_3_1 : pathUpGo 4 3 1 = true := by decide +kernel
theorem pathUp_4_3_2 : pathUpGo 4 3 2 = true := by decide +kernel
theorem pathUp_4_4_0 : pathUpGo 4 4 0 = true := by decide +kernel
theorem pathUp_4_4_1 : pathUpGo 4 4 1 = true := by decide +kernel
theorem pathUp_4_4_2 : pathUpGo 4 4 2 = true := by decide +kernel
theorem pathUp_4_5_0 : pathUpGo 4 5 0 = true := by decide +kernel
theorem pathUp_4_5_1 : pathUpGo 4 5 1 = true := by decide +kernel
theorem pathUp_4_5_2 : pathUpGo 4 5 2 = true := by decide +kernel
end Go.Proofs.YtpoekljclapbfaaDoor.Fin
