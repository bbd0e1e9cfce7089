/- Cases of the law PathNames, each run in the kernel. -/
import Derived.Test.YtpoekljclapbfaaDoorFinPathNamesB
namespace Go.Proofs.YtpoekljclapbfaaDoor.Fin
open Go.Proofs.YtpoekljclapbfaaDoor.Fast Go.RowKit
set_option linter.unusedVariables false
set_option maxRecDepth 1000000
theorem pathNames_0_0_0 : pathNamesGo 0 0 0 = true := by decide +kernel
theorem pathNames_0_0_1 : pathNamesGo 0 0 1 = true := by decide +kernel
theorem pathNames_0_0_2 : pathNamesGo 0 0 2 = true := by decide +kernel
theorem pathNames_0_0_3 : pathNamesGo 0 0 3 = true := by decide +kernel
theorem pathNames_0_1_0 : pathNamesGo 0 1 0 = true := by decide +kernel
theorem pathNames_0_1_1 : pathNamesGo 0 1 1 = true := by decide +kernel
theorem pathNames_0_1_2 : pathNamesGo 0 1 2 = true := by decide +kernel
theorem pathNames_0_1_3 : pathNamesGo 0 1 3 = true := by decide +kernel
theorem pathNames_0_2_0 : pathNamesGo 0 2 0 = true := by decide +kernel
theorem pathNames_0_2_1 : pathNamesGo 0 2 1 = true := by decide +kernel
theorem pathNames_0_2_2 : pathNamesGo 0 2 2 = true := by decide +kernel
theorem pathNames_0_2_3 : pathNamesGo 0 2 3 = true := by decide +kernel
theorem pathNames_0_3_0 : pathNamesGo 0 3 0 = true := by decide +kernel
theorem pathNames_0_3_1 : pathNamesGo 0 3 1 = true := by decide +kernel
theorem pathNames_0_3_2 : pathNamesGo 0 3 2 = true := by decide +kernel
theorem pathNames_0_3_3 : pathNamesGo 0 3 3 = true := by decide +kernel
theorem pathNames_1_0_0 : pathNamesGo 1 0 0 = true := by decide +kernel
theorem pathNames_1_0_1 : pathNamesGo 1 0 1 = true := by decide +kernel
theorem pathNames_1_0_2 : pathNamesGo 1 0 2 = true := by decide +kernel
theorem pathNames_1_0_3 : pathNamesGo 1 0 3 = true := by decide +kernel
theorem pathNames_1_1_0 : pathNamesGo 1 1 0 = true := by decide +kernel
theorem pathNames_1_1_1 : pathNamesGo 1 1 1 = true := by decide +kernel
theorem pathNames_1_1_2 : pathNamesGo 1 1 2 = true := by decide +kernel
theorem pathNames_1_1_3 : pathNamesGo 1 1 3 = true := by decide +kernel
theorem pathNames_1_2_0 : pathNamesGo 1 2 0 = true := by decide +kernel
theorem pathNames_1_2_1 : pathNamesGo 1 2 1 = true := by decide +kernel
theorem pathNames_1_2_2 : pathNamesGo 1 2 2 = true := by decide +kernel
theorem pathNames_1_2_3 : pathNamesGo 1 2 3 = true := by decide +kernel
theorem pathNames_1_3_0 : pathNamesGo 1 3 0 = true := by decide +kernel
theorem pathNames_1_3_1 : pathNamesGo 1 3 1 = true := by decide +kernel
theorem pathNames_1_3_2 : pathNamesGo 1 3 2 = true := by decide +kernel
theorem pathNames_1_3_3 : pathNamesGo 1 3 3 = true := by decide +kernel
theorem pathNames_2_0_0 : pathNamesGo 2 0 0 = true := by decide +kernel
theorem pathNames_2_0_1 : pathNamesGo 2 0 1 = true := by decide +kernel
theorem pathNames_2_0_2 : pathNamesGo 2 0 2 = true := by decide +kernel
theorem pathNames_2_0_3 : pathNamesGo 2 0 3 = true := by decide +kernel
theorem pathNames_2_1_0 : pathNamesGo 2 1 0 = true := by decide +kernel
theorem pathNames_2_1_1 : pathNamesGo 2 1 1 = true := by decide +kernel
theorem pathNames_2_1_2 : pathNamesGo 2 1 2 = true := by decide +kernel
theorem pathNames_2_1_3 : pathNamesGo 2 1 3 = true := by decide +kernel
end Go.Proofs.YtpoekljclapbfaaDoor.Fin
