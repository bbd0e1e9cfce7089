/- Cases of the law PathUp, each run in the kernel. -/
import Derived.Test.YtpoekljclapbfaaDoorFinPathUpB
namespace Go.Proofs.YtpoekljclapbfaaDoor.Fin
open Go.Proofs.YtpoekljclapbfaaDoor.Fast Go.RowKit
set_option linter.unusedVariables false
set_option maxRecDepth 1000000
theorem pathUp_11_3_0 : pathUpGo 11 3 0 = true := by decide +kernel
theorem pathUp_11_3_1 : pathUpGo 11 3 1 = true := by decide +kernel
theorem pathUp_11_3_2 : pathUpGo 11 3 2 = true := by decide +kernel
theorem pathUp_11_4_0 : pathUpGo 11 4 0 = true := by decide +kernel
theorem pathUp_11_4_1 : pathUpGo 11 4 1 = true := by decide +kernel
theorem pathUp_11_4_2 : pathUpGo 11 4 2 = true := by decide +kernel
theorem pathUp_11_5_0 : pathUpGo 11 5 0 = true := by decide +kernel
theorem pathUp_11_5_1 : pathUpGo 11 5 1 = true := by decide +kernel
theorem pathUp_11_5_2 : pathUpGo 11 5 2 = true := by decide +kernel
theorem pathUp_11_6_0 : pathUpGo 11 6 0 = true := by decide +kernel
theorem pathUp_11_6_1 : pathUpGo 11 6 1 = true := by decide +kernel
theorem pathUp_11_6_2 : pathUpGo 11 6 2 = true := by decide +kernel
theorem pathUp_11_7_0 : pathUpGo 11 7 0 = true := by decide +kernel
theorem pathUp_11_7_1 : pathUpGo 11 7 1 = true := by decide +kernel
theorem pathUp_11_7_2 : pathUpGo 11 7 2 = true := by decide +kernel
theorem pathUp_11_8_0 : pathUpGo 11 8 0 = true := by decide +kernel
theorem pathUp_11_8_1 : pathUpGo 11 8 1 = true := by decide +kernel
theorem pathUp_11_8_2 : pathUpGo 11 8 2 = true := by decide +kernel
end Go.Proofs.YtpoekljclapbfaaDoor.Fin
