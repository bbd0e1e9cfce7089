/- Cases of the law ListsPairs, each run in the kernel. -/
import Derived.Test.YtlmabmpdbcgabaaFinListsPairsB
namespace Go.Proofs.Ytlmabmpdbcgabaa.Fin
open Go.Proofs.Ytlmabmpdbcgabaa.Fast Go.RowKit
set_option linter.unusedVariables false
set_option maxRecDepth 1000000
theorem listsPairs_10_10 : listsPairsGo 10 10 = true := by decide +kernel
theorem listsPairs_10_11 : listsPairsGo 10 11 = true := by decide +kernel
theorem listsPairs_10_12 : listsPairsGo 10 12 = true := by decide +kernel
theorem listsPairs_10_13 : listsPairsGo 10 13 = true := by decide +kernel
theorem listsPairs_10_14 : listsPairsGo 10 14 = true := by decide +kernel
theorem listsPairs_10_15 : listsPairsGo 10 15 = true := by decide +kernel
theorem listsPairs_10_16 : listsPairsGo 10 16 = true := by decide +kernel
theorem listsPairs_10_17 : listsPairsGo 10 17 = true := by decide +kernel
theorem listsPairs_10_18 : listsPairsGo 10 18 = true := by decide +kernel
theorem listsPairs_10_19 : listsPairsGo 10 19 = true := by decide +kernel
theorem listsPairs_11_0 : listsPairsGo 11 0 = true := by decide +kernel
theorem listsPairs_11_1 : listsPairsGo 11 1 = true := by decide +kernel
theorem listsPairs_11_2 : listsPairsGo 11 2 = true := by decide +kernel
theorem listsPairs_11_3 : listsPairsGo 11 3 = true := by decide +kernel
end Go.Proofs.Ytlmabmpdbcgabaa.Fin
