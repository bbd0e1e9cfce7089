/- Cases of the law ListsPairs, each run in the kernel. -/
import Derived.Test.YtlmabmpdbcgabaaFinListsPairsB
namespace Go.Proofs.Ytlmabmpdbcgabaa.Fin
open Go.Proofs.Ytlmabmpdbcgabaa.Fast Go.RowKit
set_option linter.unusedVariables false
set_option maxRecDepth 1000000
theorem listsPairs_9_2 : listsPairsGo 9 2 = true := by decide +kernel
theorem listsPairs_9_3 : listsPairsGo 9 3 = true := by decide +kernel
theorem listsPairs_9_4 : listsPairsGo 9 4 = true := by decide +kernel
theorem listsPairs_9_5 : listsPairsGo 9 5 = true := by decide +kernel
theorem listsPairs_9_6 : listsPairsGo 9 6 = true := by decide +kernel
theorem listsPairs_9_7 : listsPairsGo 9 7 = true := by decide +kernel
theorem listsPairs_9_8 : listsPairsGo 9 8 = true := by decide +kernel
theorem listsPairs_9_9 : listsPairsGo 9 9 = true := by decide +kernel
theorem listsPairs_9_10 : listsPairsGo 9 10 = true := by decide +kernel
theorem listsPairs_9_11 : listsPairsGo 9 11 = true := by decide +kernel
theorem listsPairs_9_12 : listsPairsGo 9 12 = true := by decide +kernel
theorem listsPairs_9_13 : listsPairsGo 9 13 = true := by decide +kernel
theorem listsPairs_9_14 : listsPairsGo 9 14 = true := by decide +kernel
theorem listsPairs_9_15 : listsPairsGo 9 15 = true := by decide +kernel
end Go.Proofs.Ytlmabmpdbcgabaa.Fin
