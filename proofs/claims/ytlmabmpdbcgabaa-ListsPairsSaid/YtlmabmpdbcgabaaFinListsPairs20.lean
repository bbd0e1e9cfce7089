/- Cases of the law ListsPairs, each run in the kernel. -/
import Derived.Test.YtlmabmpdbcgabaaFinListsPairsB
namespace Go.Proofs.Ytlmabmpdbcgabaa.Fin
open Go.Proofs.Ytlmabmpdbcgabaa.Fast Go.RowKit
set_option linter.unusedVariables false
set_option maxRecDepth 1000000
theorem listsPairs_14_0 : listsPairsGo 14 0 = true := by decide +kernel
theorem listsPairs_14_1 : listsPairsGo 14 1 = true := by decide +kernel
theorem listsPairs_14_2 : listsPairsGo 14 2 = true := by decide +kernel
theorem listsPairs_14_3 : listsPairsGo 14 3 = true := by decide +kernel
theorem listsPairs_14_4 : listsPairsGo 14 4 = true := by decide +kernel
theorem listsPairs_14_5 : listsPairsGo 14 5 = true := by decide +kernel
theorem listsPairs_14_6 : listsPairsGo 14 6 = true := by decide +kernel
theorem listsPairs_14_7 : listsPairsGo 14 7 = true := by decide +kernel
theorem listsPairs_14_8 : listsPairsGo 14 8 = true := by decide +kernel
theorem listsPairs_14_9 : listsPairsGo 14 9 = true := by decide +kernel
theorem listsPairs_14_10 : listsPairsGo 14 10 = true := by decide +kernel
theorem listsPairs_14_11 : listsPairsGo 14 11 = true := by decide +kernel
theorem listsPairs_14_12 : listsPairsGo 14 12 = true := by decide +kernel
theorem listsPairs_14_13 : listsPairsGo 14 13 = true := by decide +kernel
end Go.Proofs.Ytlmabmpdbcgabaa.Fin
