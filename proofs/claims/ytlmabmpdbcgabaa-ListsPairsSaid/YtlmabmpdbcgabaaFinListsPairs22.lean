/- Cases of the law ListsPairs, each run in the kernel. -/
import Derived.Test.YtlmabmpdbcgabaaFinListsPairsB
namespace Go.Proofs.Ytlmabmpdbcgabaa.Fin
open Go.Proofs.Ytlmabmpdbcgabaa.Fast Go.RowKit
set_option linter.unusedVariables false
set_option maxRecDepth 1000000
theorem listsPairs_15_8 : listsPairsGo 15 8 = true := by decide +kernel
theorem listsPairs_15_9 : listsPairsGo 15 9 = true := by decide +kernel
theorem listsPairs_15_10 : listsPairsGo 15 10 = true := by decide +kernel
theorem listsPairs_15_11 : listsPairsGo 15 11 = true := by decide +kernel
theorem listsPairs_15_12 : listsPairsGo 15 12 = true := by decide +kernel
theorem listsPairs_15_13 : listsPairsGo 15 13 = true := by decide +kernel
theorem listsPairs_15_14 : listsPairsGo 15 14 = true := by decide +kernel
theorem listsPairs_15_15 : listsPairsGo 15 15 = true := by decide +kernel
theorem listsPairs_15_16 : listsPairsGo 15 16 = true := by decide +kernel
theorem listsPairs_15_17 : listsPairsGo 15 17 = true := by decide +kernel
theorem listsPairs_15_18 : listsPairsGo 15 18 = true := by decide +kernel
theorem listsPairs_15_19 : listsPairsGo 15 19 = true := by decide +kernel
theorem listsPairs_16_0 : listsPairsGo 16 0 = true := by decide +kernel
theorem listsPairs_16_1 : listsPairsGo 16 1 = true := by decide +kernel
end Go.Proofs.Ytlmabmpdbcgabaa.Fin
