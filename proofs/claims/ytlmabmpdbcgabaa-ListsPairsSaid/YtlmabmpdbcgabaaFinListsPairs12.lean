/- Cases of the law ListsPairs, each run in the kernel. -/
import Derived.Test.YtlmabmpdbcgabaaFinListsPairsB
namespace Go.Proofs.Ytlmabmpdbcgabaa.Fin
open Go.Proofs.Ytlmabmpdbcgabaa.Fast Go.RowKit
set_option linter.unusedVariables false
set_option maxRecDepth 1000000
theorem listsPairs_8_8 : listsPairsGo 8 8 = true := by decide +kernel
theorem listsPairs_8_9 : listsPairsGo 8 9 = true := by decide +kernel
theorem listsPairs_8_10 : listsPairsGo 8 10 = true := by decide +kernel
theorem listsPairs_8_11 : listsPairsGo 8 11 = true := by decide +kernel
theorem listsPairs_8_12 : listsPairsGo 8 12 = true := by decide +kernel
theorem listsPairs_8_13 : listsPairsGo 8 13 = true := by decide +kernel
theorem listsPairs_8_14 : listsPairsGo 8 14 = true := by decide +kernel
theorem listsPairs_8_15 : listsPairsGo 8 15 = true := by decide +kernel
theorem listsPairs_8_16 : listsPairsGo 8 16 = true := by decide +kernel
theorem listsPairs_8_17 : listsPairsGo 8 17 = true := by decide +kernel
theorem listsPairs_8_18 : listsPairsGo 8 18 = true := by decide +kernel
theorem listsPairs_8_19 : listsPairsGo 8 19 = true := by decide +kernel
theorem listsPairs_9_0 : listsPairsGo 9 0 = true := by decide +kernel
theorem listsPairs_9_1 : listsPairsGo 9 1 = true := by decide +kernel
end Go.Proofs.Ytlmabmpdbcgabaa.Fin
