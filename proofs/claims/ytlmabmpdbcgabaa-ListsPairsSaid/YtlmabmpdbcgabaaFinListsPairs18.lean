/- Cases of the law ListsPairs, each run in the kernel. -/
import Derived.Test.YtlmabmpdbcgabaaFinListsPairsB
namespace Go.Proofs.Ytlmabmpdbcgabaa.Fin
open Go.Proofs.Ytlmabmpdbcgabaa.Fast Go.RowKit
set_option linter.unusedVariables false
set_option maxRecDepth 1000000
theorem listsPairs_12_12 : listsPairsGo 12 12 = true := by decide +kernel
theorem listsPairs_12_13 : listsPairsGo 12 13 = true := by decide +kernel
theorem listsPairs_12_14 : listsPairsGo 12 14 = true := by decide +kernel
theorem listsPairs_12_15 : listsPairsGo 12 15 = true := by decide +kernel
theorem listsPairs_12_16 : listsPairsGo 12 16 = true := by decide +kernel
theorem listsPairs_12_17 : listsPairsGo 12 17 = true := by decide +kernel
theorem listsPairs_12_18 : listsPairsGo 12 18 = true := by decide +kernel
theorem listsPairs_12_19 : listsPairsGo 12 19 = true := by decide +kernel
theorem listsPairs_13_0 : listsPairsGo 13 0 = true := by decide +kernel
theorem listsPairs_13_1 : listsPairsGo 13 1 = true := by decide +kernel
theorem listsPairs_13_2 : listsPairsGo 13 2 = true := by decide +kernel
theorem listsPairs_13_3 : listsPairsGo 13 3 = true := by decide +kernel
theorem listsPairs_13_4 : listsPairsGo 13 4 = true := by decide +kernel
theorem listsPairs_13_5 : listsPairsGo 13 5 = true := by decide +kernel
end Go.Proofs.Ytlmabmpdbcgabaa.Fin
