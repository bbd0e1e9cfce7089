/- Cases of the law ListsPairs, each run in the kernel. -/
import Derived.Test.YtlmabmpdbcgabaaFinListsPairsB
namespace Go.Proofs.Ytlmabmpdbcgabaa.Fin
open Go.Proofs.Ytlmabmpdbcgabaa.Fast Go.RowKit
set_option linter.unusedVariables false
set_option maxRecDepth 1000000
theorem listsPairs_2_16 : listsPairsGo 2 16 = true := by decide +kernel
theorem listsPairs_2_17 : listsPairsGo 2 17 = true := by decide +kernel
theorem listsPairs_2_18 : listsPairsGo 2 18 = true := by decide +kernel
theorem listsPairs_2_19 : listsPairsGo 2 19 = true := by decide +kernel
theorem listsPairs_3_0 : listsPairsGo 3 0 = true := by decide +kernel
theorem listsPairs_3_1 : listsPairsGo 3 1 = true := by decide +kernel
theorem listsPairs_3_2 : listsPairsGo 3 2 = true := by decide +kernel
theorem listsPairs_3_3 : listsPairsGo 3 3 = true := by decide +kernel
theorem listsPairs_3_4 : listsPairsGo 3 4 = true := by decide +kernel
theorem listsPairs_3_5 : listsPairsGo 3 5 = true := by decide +kernel
theorem listsPairs_3_6 : listsPairsGo 3 6 = true := by decide +kernel
theorem listsPairs_3_7 : listsPairsGo 3 7 = true := by decide +kernel
theorem listsPairs_3_8 : listsPairsGo 3 8 = true := by decide +kernel
theorem listsPairs_3_9 : listsPairsGo 3 9 = true := by decide +kernel
end Go.Proofs.Ytlmabmpdbcgabaa.Fin
