/- Cases of the law PathNames, each run in the kernel. -/
import Derived.Test.YtpoekljclapbfaaDoorFinPathNamesB
namespace Go.Proofs.YtpoekljclapbfaaDoor.Fin
open Go.Proofs.YtpoekljclapbfaaDoor.Fast Go.RowKit
set_option linter.unusedVariables false
set_option maxRecDepth 1000000
theorem pathNames_2_2_0 : pathNamesGo 2 2 0 = true := by decide +kernel
theorem pathNames_2_2_1 : pathNamesGo 2 2 1 = true := by decide +kernel
theorem pathNames_2_2_2 : pathNamesGo 2 2 2 = true := by decide +kernel
theorem pathNames_2_2_3 : pathNamesGo 2 2 3 = true := by decide +kernel
theorem pathNames_2_3_0 : pathNamesGo 2 3 0 = true := by decide +kernel
theorem pathNames_2_3_1 : pathNamesGo 2 3 1 = true := by decide +kernel
theorem pathNames_2_3_2 : pathNamesGo 2 3 2 = true := by decide +kernel
theorem pathNames_2_3_3 : pathNamesGo 2 3 3 = true := by decide +kernel
theorem pathNames_3_0_0 : pathNamesGo 3 0 0 = true := by decide +kernel
theorem pathNames_3_0_1 : pathNamesGo 3 0 1 = true := by decide +kernel
theorem pathNames_3_0_2 : pathNamesGo 3 0 2 = true := by decide +kernel
theorem pathNames_3_0_3 : pathNamesGo 3 0 3 = true := by decide +kernel
theorem pathNames_3_1_0 : pathNamesGo 3 1 0 = true := by decide +kernel
theorem pathNames_3_1_1 : pathNamesGo 3 1 1 = true := by decide +kernel
theorem pathNames_3_1_2 : pathNamesGo 3 1 2 = true := by decide +kernel
theorem pathNames_3_1_3 : pathNamesGo 3 1 3 = true := by decide +kernel
theorem pathNames_3_2_0 : pathNamesGo 3 2 0 = true := by decide +kernel
theorem pathNames_3_2_1 : pathNamesGo 3 2 1 = true := by decide +kernel
theorem pathNames_3_2_2 : pathNamesGo 3 2 2 = true := by decide +kernel
theorem pathNames_3_2_3 : pathNamesGo 3 2 3 = true := by decide +kernel
theorem pathNames_3_3_0 : pathNamesGo 3 3 0 = true := by decide +kernel
theorem pathNames_3_3_1 : pathNamesGo 3 3 1 = true := by decide +kernel
theorem pathNames_3_3_2 : pathNamesGo 3 3 2 = true := by decide +kernel
theorem pathNames_3_3_3 : pathNamesGo 3 3 3 = true := by decide +kernel
theorem pathNames_4_0_0 : pathNamesGo 4 0 0 = true := by decide +kernel
theorem pathNames_4_0_1 : pathNamesGo 4 0 1 = true := by decide +kernel
theorem pathNames_4_0_2 : pathNamesGo 4 0 2 = true := by decide +kernel
theorem pathNames_4_0_3 : pathNamesGo 4 0 3 = true := by decide +kernel
theorem pathNames_4_1_0 : pathNamesGo 4 1 0 = true := by decide +kernel
theorem pathNames_4_1_1 : pathNamesGo 4 1 1 = true := by decide +kernel
theorem pathNames_4_1_2 : pathNamesGo 4 1 2 = true := by decide +kernel
theorem pathNames_4_1_3 : pathNamesGo 4 1 3 = true := by decide +kernel
theorem pathNames_4_2_0 : pathNamesGo 4 2 0 = true := by decide +kernel
theorem pathNames_4_2_1 : pathNamesGo 4 2 1 = true := by decide +kernel
theorem pathNames_4_2_2 : pathNamesGo 4 2 2 = true := by decide +kernel
theorem pathNames_4_2_3 : pathNamesGo 4 2 3 = true := by decide +kernel
theorem pathNames_4_3_0 : pathNamesGo 4 3 0 = true := by decide +kernel
theorem pathNames_4_3_1 : pathNamesGo 4 3 1 = true := by decide +kernel
theorem pathNames_4_3_2 : pathNamesGo 4 3 2 = true := by decide +kernel
theorem pathNames_4_3_3 : pathNamesGo 4 3 3 = true := by decide +kernel
end Go.Proofs.YtpoekljclapbfaaDoor.Fin
