/- Cases of the law PathUp, each run in the kernel. -/
import Derived.Test.YtpoekljclapbfaaDoorFinPathUpB
namespace Go.Proofs.YtpoekljclapbfaaDoor.Fin
open Go.Proofs.YtpoekljclapbfaaDoor.Fast Go.RowKit
set_option linter.unusedVariables false
set_option maxRecDepth 1000000
theorem pathUp_6_0_0 : pathUpGo 6 0 0 = true := by decide +kernel
theorem pathUp_6_0_1 : pathUpGo 6 0 1 = true := by decide +kernel
theorem pathUp_6_0_2 : pathUpGo 6 0 2 = true := by decide +kernel
theorem pathUp_6_1_0 : pathUpGo 6 1 0 = true := by decide +kernel
theorem pathUp_6_1_1 : pathUpGo 6 1 1 = true := by decide +kernel
theorem pathUp_6_1_2 : pathUpGo 6 1 2 = true := by decide +kernel
theorem pathUp_6_2_0 : pathUpGo 6 2 0 = true := by decide +kernel
theorem pathUp_6_2_1 : pathUpGo 6 2 1 = true := by decide +kernel
theorem pathUp_6_2_2 : pathUpGo 6 2 2 = true := by decide +kernel
theorem pathUp_6_3_0 : pathUpGo 6 3 0 = true := by decide +kernel
theorem pathUp_6_3_1 : pathUpGo 6 3 1 = true := by decide +kernel
theorem pathUp_6_3_2 : pathUpGo 6 3 2 = true := by decide +kernel
theorem pathUp_6_4_0 : pathUpGo 6 4 0 = true := by decide +kernel
theorem pathUp_6_4_1 : pathUpGo 6 4 1 = true := by decide +kernel
theorem pathUp_6_4_2 : pathUpGo 6 4 2 = true := by decide +kernel
theorem pathUp_6_5_0 : pathUpGo 6 5 0 = true := by decide +kernel
theorem pathUp_6_5_1 : pathUpGo 6 5 1 = true := by decide +kernel
theorem pathUp_6_5_2 : pathUpGo 6 5 2 = true := by decide +kernel
end Go.Proofs.YtpoekljclapbfaaDoor.Fin
