/- Cases of the law ListsPairs, each run in the kernel. -/
import Derived.Test.YtlmabmpdbcgabaaFinListsPairsB
namespace Go.Proofs.Ytlmabmpdbcgabaa.Fin
open Go.Proofs.Ytlmabmpdbcgabaa.Fast Go.RowKit
set_option linter.unusedVariables false
set_option maxRecDepth 1000000
theorem listsPairs_2_2 : listsPairsGo 2 2 = true := by decide +kernel
theorem listsPairs_2_3 : listsPairsGo 2 3 = true := by decide +kernel
theorem listsPairs_2_4 : listsPairsGo 2 4 = true := by decide +kernel
theorem listsPairs_2_5 : listsPairsGo 2 5 = true := by decide +kernel
theorem listsPairs_2_6 : listsPairsGo 2 6 = true := by decide +kernel
theorem listsPairs_2_7 : listsPairsGo 2 7 = true := by decide +kernel
theorem listsPairs_2_8 : listsPairsGo 2 8 = true := by decide +kernel
theorem listsPairs_2_9 : listsPairsGo 2 9 = true := by decide +kernel
theorem listsPairs_2_10 : listsPairsGo 2 10 = true := by decide +kernel
theorem listsPairs_2_11 : listsPairsGo 2 11 = true := by decide +kernel
theorem listsPairs_2_12 : listsPairsGo 2 12 = true := by decide +kernel
theorem listsPairs_2_13 : listsPairsGo 2 13 = true := by decide +kernel
theorem listsPairs_2_14 : listsPairsGo 2 14 = true := by decide +kernel
theorem listsPairs_2_15 : listsPairsGo 2 15 = true := by decide +kernel
end Go.Proofs.Ytlmabmpdbcgabaa.Fin
