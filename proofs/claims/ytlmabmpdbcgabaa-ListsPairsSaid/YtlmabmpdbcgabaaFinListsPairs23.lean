/- Cases of the law ListsPairs, each run in the kernel. -/
import Derived.Test.YtlmabmpdbcgabaaFinListsPairsB
namespace Go.Proofs.Ytlmabmpdbcgabaa.Fin
open Go.Proofs.Ytlmabmpdbcgabaa.Fast Go.RowKit
set_option linter.unusedVariables false
set_option maxRecDepth 1000000
theorem listsPairs_16_2 : listsPairsGo 16 2 = true := by decide +kernel
theorem listsPairs_16_3 : listsPairsGo 16 3 = true := by decide +kernel
theorem listsPairs_16_4 : listsPairsGo 16 4 = true := by decide +kernel
theorem listsPairs_16_5 : listsPairsGo 16 5 = true := by decide +kernel
theorem listsPairs_16_6 : listsPairsGo 16 6 = true := by decide +kernel
theorem listsPairs_16_7 : listsPairsGo 16 7 = true := by decide +kernel
theorem listsPairs_16_8 : listsPairsGo 16 8 = true := by decide +kernel
theorem listsPairs_16_9 : listsPairsGo 16 9 = true := by decide +kernel
theorem listsPairs_16_10 : listsPairsGo 16 10 = true := by decide +kernel
theorem listsPairs_16_11 : listsPairsGo 16 11 = true := by decide +kernel
theorem listsPairs_16_12 : listsPairsGo 16 12 = true := by decide +kernel
theorem listsPairs_16_13 : listsPairsGo 16 13 = true := by decide +kernel
theorem listsPairs_16_14 : listsPairsGo 16 14 = true := by decide +kernel
theorem listsPairs_16_15 : listsPairsGo 16 15 = true := by decide +kernel
end Go.Proofs.Ytlmabmpdbcgabaa.Fin
