/- Cases of the law ListsPairs, each run in the kernel. -/
import Derived.Test.YtlmabmpdbcgabaaFinListsPairsB
namespace Go.Proofs.Ytlmabmpdbcgabaa.Fin
open Go.Proofs.Ytlmabmpdbcgabaa.Fast Go.RowKit
set_option linter.unusedVariables false
set_option maxRecDepth 1000000
theorem listsPairs_18_4 : listsPairsGo 18 4 = true := by decide +kernel
theorem listsPairs_18_5 : listsPairsGo 18 5 = true := by decide +kernel
theorem listsPairs_18_6 : listsPairsGo 18 6 = true := by decide +kernel
theorem listsPairs_18_7 : listsPairsGo 18 7 = true := by decide +kernel
theorem listsPairs_18_8 : listsPairsGo 18 8 = true := by decide +kernel
theorem listsPairs_18_9 : listsPairsGo 18 9 = true := by decide +kernel
theorem listsPairs_18_10 : listsPairsGo 18 10 = true := by decide +kernel
theorem listsPairs_18_11 : listsPairsGo 18 11 = true := by decide +kernel
theorem listsPairs_18_12 : listsPairsGo 18 12 = true := by decide +kernel
theorem listsPairs_18_13 : listsPairsGo 18 13 = true := by decide +kernel
theorem listsPairs_18_14 : listsPairsGo 18 14 = true := by decide +kernel
theorem listsPairs_18_15 : listsPairsGo 18 15 = true := by decide +kernel
theorem listsPairs_18_16 : listsPairsGo 18 16 = true := by decide +kernel
theorem listsPairs_18_17 : listsPairsGo 18 17 = true := by decide +kernel
end Go.Proofs.Ytlmabmpdbcgabaa.Fin
