/- Cases of the law ListsPairs, each run in the kernel. -/
import Derived.Test.YtlmabmpdbcgabaaFinListsPairsB
namespace Go.Proofs.Ytlmabmpdbcgabaa.Fin
open Go.Proofs.Ytlmabmpdbcgabaa.Fast Go.RowKit
set_option linter.unusedVariables false
set_option maxRecDepth 1000000
theorem listsPairs_1_8 : listsPairsGo 1 8 = true := by decide +kernel
theorem listsPairs_1_9 : listsPairsGo 1 9 = true := by decide +kernel
theorem listsPairs_1_10 : listsPairsGo 1 10 = true := by decide +kernel
theorem listsPairs_1_11 : listsPairsGo 1 11 = true := by decide +kernel
theorem listsPairs_1_12 : listsPairsGo 1 12 = true := by decide +kernel
theorem listsPairs_1_13 : listsPairsGo 1 13 = true := by decide +kernel
theorem listsPairs_1_14 : listsPairsGo 1 14 = true := by decide +kernel
theorem listsPairs_1_15 : listsPairsGo 1 15 = true := by decide +kernel
theorem listsPairs_1_16 : listsPairsGo 1 16 = true := by decide +kernel
theorem listsPairs_1_17 : listsPairsGo 1 17 = true := by decide +kernel
theorem listsPairs_1_18 : listsPairsGo 1 18 = true := by decide +kernel
theorem listsPairs_1_19 : listsPairsGo 1 19 = true := by decide +kernel
theorem listsPairs_2_0 : listsPairsGo 2 0 = true := by decide +kernel
theorem listsPairs_2_1 : listsPairsGo 2 1 = true := by decide +kernel
end Go.Proofs.Ytlmabmpdbcgabaa.Fin
