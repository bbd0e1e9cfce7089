/- Cases of the law ListsPairs, each run in the kernel. -/
import Derived.Test.YtlmabmpdbcgabaaFinListsPairsB
namespace Go.Proofs.Ytlmabmpdbcgabaa.Fin
open Go.Proofs.Ytlmabmpdbcgabaa.Fast Go.RowKit
set_option linter.unusedVariables false
set_option maxRecDepth 1000000
theorem listsPairs_3_10 : listsPairsGo 3 10 = true := by decide +kernel
theorem listsPairs_3_11 : listsPairsGo 3 11 = true := by decide +kernel
theorem listsPairs_3_12 : listsPairsGo 3 12 = true := by decide +kernel
theorem listsPairs_3_13 : listsPairsGo 3 13 = true := by decide +kernel
theorem listsPairs_3_14 : listsPairsGo 3 14 = true := by decide +kernel
theorem listsPairs_3_15 : listsPairsGo 3 15 = true := by decide +kernel
theorem listsPairs_3_16 : listsPairsGo 3 16 = true := by decide +kernel
theorem listsPairs_3_17 : listsPairsGo 3 17 = true := by decide +kernel
theorem listsPairs_3_18 : listsPairsGo 3 18 = true := by decide +kernel
theorem listsPairs_3_19 : listsPairsGo 3 19 = true := by decide +kernel
theorem listsPairs_4_0 : listsPairsGo 4 0 = true := by decide +kernel
theorem listsPairs_4_1 : listsPairsGo 4 1 = true := by decide +kernel
theorem listsPairs_4_2 : listsPairsGo 4 2 = true := by decide +kernel
theorem listsPairs_4_3 : listsPairsGo 4 3 = true := by decide +kernel
end Go.Proofs.Ytlmabmpdbcgabaa.Fin
