/- Cases of the law ListsPairs, each run in the kernel. -/
import Derived.Test.YtlmabmpdbcgabaaFinListsPairsB
namespace Go.Proofs.Ytlmabmpdbcgabaa.Fin
open Go.Proofs.Ytlmabmpdbcgabaa.Fast Go.RowKit
set_option linter.unusedVariables false
set_option maxRecDepth 1000000
theorem listsPairs_0_0 : listsPairsGo 0 0 = true := by decide +kernel
theorem listsPairs_0_1 : listsPairsGo 0 1 = true := by decide +kernel
theorem listsPairs_0_2 : listsPairsGo 0 2 = true := by decide +kernel
theorem listsPairs_0_3 : listsPairsGo 0 3 = true := by decide +kernel
theorem listsPairs_0_4 : listsPairsGo 0 4 = true := by decide +kernel
theorem listsPairs_0_5 : listsPairsGo 0 5 = true := by decide +kernel
theorem listsPairs_0_6 : listsPairsGo 0 6 = true := by decide +kernel
theorem listsPairs_0_7 : listsPairsGo 0 7 = true := by decide +kernel
theorem listsPairs_0_8 : listsPairsGo 0 8 = true := by decide +kernel
theorem listsPairs_0_9 : listsPairsGo 0 9 = true := by decide +kernel
theorem listsPairs_0_10 : listsPairsGo 0 10 = true := by decide +kernel
theorem listsPairs_0_11 : listsPairsGo 0 11 = true := by decide +kernel
theorem listsPairs_0_12 : listsPairsGo 0 12 = true := by decide +kernel
theorem listsPairs_0_13 : listsPairsGo 0 13 = true := by decide +kernel
end Go.Proofs.Ytlmabmpdbcgabaa.Fin
