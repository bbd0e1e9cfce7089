/- Cases of the law ListsPairs, each run in the kernel. -/
import Derived.Test.YtlmabmpdbcgabaaFinListsPairsB
namespace Go.Proofs.Ytlmabmpdbcgabaa.Fin
open Go.Proofs.Ytlmabmpdbcgabaa.Fast Go.RowKit
set_option linter.unusedVariables false
set_option maxRecDepth 1000000
theorem listsPairs_0_14 : listsPairsGo 0 14 = true := by decide +kernel
theorem listsPairs_0_15 : listsPairsGo 0 15 = true := by decide +kernel
theorem listsPairs_0_16 : listsPairsGo 0 16 = true := by decide +kernel
theorem listsPairs_0_17 : listsPairsGo 0 17 = true := by decide +kernel
theorem listsPairs_0_18 : listsPairsGo 0 18 = true := by decide +kernel
theorem listsPairs_0_19 : listsPairsGo 0 19 = true := by decide +kernel
theorem listsPairs_1_0 : listsPairsGo 1 0 = true := by decide +kernel
theorem listsPairs_1_1 : listsPairsGo 1 1 = true := by decide +kernel
theorem listsPairs_1_2 : listsPairsGo 1 2 = true := by decide +kernel
theorem listsPairs_1_3 : listsPairsGo 1 3 = true := by decide +kernel
theorem listsPairs_1_4 : listsPairsGo 1 4 = true := by decide +kernel
theorem listsPairs_1_5 : listsPairsGo 1 5 = true := by decide +kernel
theorem listsPairs_1_6 : listsPairsGo 1 6 = true := by decide +kernel
theorem listsPairs_1_7 : listsPairsGo 1 7 = true := by decide +kernel
end Go.Proofs.Ytlmabmpdbcgabaa.Fin
