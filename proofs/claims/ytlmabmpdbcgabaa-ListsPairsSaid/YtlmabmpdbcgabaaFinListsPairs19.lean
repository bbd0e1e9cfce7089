/- Cases of the law ListsPairs, each run in the kernel. -/
import Derived.Test.YtlmabmpdbcgabaaFinListsPairsB
namespace Go.Proofs.Ytlmabmpdbcgabaa.Fin
open Go.Proofs.Ytlmabmpdbcgabaa.Fast Go.RowKit
set_option linter.unusedVariables false
set_option maxRecDepth 1000000
theorem listsPairs_13_6 : listsPairsGo 13 6 = true := by decide +kernel
theorem listsPairs_13_7 : listsPairsGo 13 7 = true := by decide +kernel
theorem listsPairs_13_8 : listsPairsGo 13 8 = true := by decide +kernel
theorem listsPairs_13_9 : listsPairsGo 13 9 = true := by decide +kernel
theorem listsPairs_13_10 : listsPairsGo 13 10 = true := by decide +kernel
theorem listsPairs_13_11 : listsPairsGo 13 11 = true := by decide +kernel
theorem listsPairs_13_12 : listsPairsGo 13 12 = true := by decide +kernel
theorem listsPairs_13_13 : listsPairsGo 13 13 = true := by decide +kernel
theorem listsPairs_13_14 : listsPairsGo 13 14 = true := by decide +kernel
theorem listsPairs_13_15 : listsPairsGo 13 15 = true := by decide +kernel
theorem listsPairs_13_16 : listsPairsGo 13 16 = true := by decide +kernel
theorem listsPairs_13_17 : listsPairsGo 13 17 = true := by decide +kernel
theorem listsPairs_13_18 : listsPairsGo 13 18 = true := by decide +kernel
theorem listsPairs_13_19 : listsPairsGo 13 19 = true := by decide +kernel
end Go.Proofs.Ytlmabmpdbcgabaa.Fin
