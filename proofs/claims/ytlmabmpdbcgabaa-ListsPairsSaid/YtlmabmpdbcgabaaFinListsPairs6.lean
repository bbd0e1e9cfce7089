/- Cases of the law ListsPairs, each run in the kernel. -/
import Derived.Test.YtlmabmpdbcgabaaFinListsPairsB
namespace Go.Proofs.Ytlmabmpdbcgabaa.Fin
open Go.Proofs.Ytlmabmpdbcgabaa.Fast Go.RowKit
set_option linter.unusedVariables false
set_option maxRecDepth 1000000
theorem listsPairs_4_4 : listsPairsGo 4 4 = true := by decide +kernel
theorem listsPairs_4_5 : listsPairsGo 4 5 = true := by decide +kernel
theorem listsPairs_4_6 : listsPairsGo 4 6 = true := by decide +kernel
theorem listsPairs_4_7 : listsPairsGo 4 7 = true := by decide +kernel
theorem listsPairs_4_8 : listsPairsGo 4 8 = true := by decide +kernel
theorem listsPairs_4_9 : listsPairsGo 4 9 = true := by decide +kernel
theorem listsPairs_4_10 : listsPairsGo 4 10 = true := by decide +kernel
theorem listsPairs_4_11 : listsPairsGo 4 11 = true := by decide +kernel
theorem listsPairs_4_12 : listsPairsGo 4 12 = true := by decide +kernel
theorem listsPairs_4_13 : listsPairsGo 4 13 = true := by decide +kernel
theorem listsPairs_4_14 : listsPairsGo 4 14 = true := by decide +kernel
theorem listsPairs_4_15 : listsPairsGo 4 15 = true := by decide +kernel
theorem listsPairs_4_16 : listsPairsGo 4 16 = true := by decide +kernel
theorem listsPairs_4_17 : listsPairsGo 4 17 = true := by decide +kernel
end Go.Proofs.Ytlmabmpdbcgabaa.Fin
