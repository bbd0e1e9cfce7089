/- Cases of the law ListsPairs, each run in the kernel. -/
import Derived.Test.YtlmabmpdbcgabaaFinListsPairsB
namespace Go.Proofs.Ytlmabmpdbcgabaa.Fin
open Go.Proofs.Ytlmabmpdbcgabaa.Fast Go.RowKit
set_option linter.unusedVariables false
set_option maxRecDepth 1000000
theorem listsPairs_14_14 : listsPairsGo 14 14 = true := by decide +kernel
theorem listsPairs_14_15 : listsPairsGo 14 15 = true := by decide +kernel
theorem listsPairs_14_16 : listsPairsGo 14 16 = true := by decide +kernel
theorem listsPairs_14_17 : listsPairsGo 14 17 = true := by decide +kernel
theorem listsPairs_14_18 : listsPairsGo 14 18 = true := by decide +kernel
theorem listsPairs_14_19 : listsPairsGo 14 19 = true := by decide +kernel
theorem listsPairs_15_0 : listsPairsGo 15 0 = true := by decide +kernel
theorem listsPairs_15_1 : listsPairsGo 15 1 = true := by decide +kernel
theorem listsPairs_15_2 : listsPairsGo 15 2 = true := by decide +kernel
theorem listsPairs_15_3 : listsPairsGo 15 3 = true := by decide +kernel
theorem listsPairs_15_4 : listsPairsGo 15 4 = true := by decide +kernel
theorem listsPairs_15_5 : listsPairsGo 15 5 = true := by decide +kernel
theorem listsPairs_15_6 : listsPairsGo 15 6 = true := by decide +kernel
theorem listsPairs_15_7 : listsPairsGo 15 7 = true := by decide +kernel
end Go.Proofs.Ytlmabmpdbcgabaa.Fin
