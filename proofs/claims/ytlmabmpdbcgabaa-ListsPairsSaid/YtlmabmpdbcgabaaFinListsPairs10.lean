/- Cases of the law ListsPairs, each run in the kernel. -/
import Derived.Test.YtlmabmpdbcgabaaFinListsPairsB
namespace Go.Proofs.Ytlmabmpdbcgabaa.Fin
open Go.Proofs.Ytlmabmpdbcgabaa.Fast Go.RowKit
set_option linter.unusedVariables false
set_option maxRecDepth 1000000
theorem listsPairs_7_0 : listsPairsGo 7 0 = true := by decide +kernel
theorem listsPairs_7_1 : listsPairsGo 7 1 = true := by decide +kernel
theorem listsPairs_7_2 : listsPairsGo 7 2 = true := by decide +kernel
theorem listsPairs_7_3 : listsPairsGo 7 3 = true := by decide +kernel
theorem listsPairs_7_4 : listsPairsGo 7 4 = true := by decide +kernel
theorem listsPairs_7_5 : listsPairsGo 7 5 = true := by decide +kernel
theorem listsPairs_7_6 : listsPairsGo 7 6 = true := by decide +kernel
theorem listsPairs_7_7 : listsPairsGo 7 7 = true := by decide +kernel
theorem listsPairs_7_8 : listsPairsGo 7 8 = true := by decide +kernel
theorem listsPairs_7_9 : listsPairsGo 7 9 = true := by decide +kernel
theorem listsPairs_7_10 : listsPairsGo 7 10 = true := by decide +kernel
theorem listsPairs_7_11 : listsPairsGo 7 11 = true := by decide +kernel
theorem listsPairs_7_12 : listsPairsGo 7 12 = true := by decide +kernel
theorem listsPairs_7_13 : listsPairsGo 7 13 = true := by decide +kernel
end Go.Proofs.Ytlmabmpdbcgabaa.Fin
