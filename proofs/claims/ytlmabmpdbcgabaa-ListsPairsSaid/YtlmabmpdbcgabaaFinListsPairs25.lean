/- Cases of the law ListsPairs, each run in the kernel. -/
import Derived.Test.YtlmabmpdbcgabaaFinListsPairsB
namespace Go.Proofs.Ytlmabmpdbcgabaa.Fin
open Go.Proofs.Ytlmabmpdbcgabaa.Fast Go.RowKit
set_option linter.unusedVariables false
set_option maxRecDepth 1000000
theorem listsPairs_17_10 : listsPairsGo 17 10 = true := by decide +kernel
theorem listsPairs_17_11 : listsPairsGo 17 11 = true := by decide +kernel
theorem listsPairs_17_12 : listsPairsGo 17 12 = true := by decide +kernel
theorem listsPairs_17_13 : listsPairsGo 17 13 = true := by decide +kernel
theorem listsPairs_17_14 : listsPairsGo 17 14 = true := by decide +kernel
theorem listsPairs_17_15 : listsPairsGo 17 15 = true := by decide +kernel
theorem listsPairs_17_16 : listsPairsGo 17 16 = true := by decide +kernel
theorem listsPairs_17_17 : listsPairsGo 17 17 = true := by decide +kernel
theorem listsPairs_17_18 : listsPairsGo 17 18 = true := by decide +kernel
theorem listsPairs_17_19 : listsPairsGo 17 19 = true := by decide +kernel
theorem listsPairs_18_0 : listsPairsGo 18 0 = true := by decide +kernel
theorem listsPairs_18_1 : listsPairsGo 18 1 = true := by decide +kernel
theorem listsPairs_18_2 : listsPairsGo 18 2 = true := by decide +kernel
theorem listsPairs_18_3 : listsPairsGo 18 3 = true := by decide +kernel
end Go.Proofs.Ytlmabmpdbcgabaa.Fin
