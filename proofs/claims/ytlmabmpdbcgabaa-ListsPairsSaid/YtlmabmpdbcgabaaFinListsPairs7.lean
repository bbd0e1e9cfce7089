/- Cases of the law ListsPairs, each run in the kernel. -/
import Derived.Test.YtlmabmpdbcgabaaFinListsPairsB
namespace Go.Proofs.Ytlmabmpdbcgabaa.Fin
open Go.Proofs.Ytlmabmpdbcgabaa.Fast Go.RowKit
set_option linter.unusedVariables false
set_option maxRecDepth 1000000
theorem listsPairs_4_18 : listsPairsGo 4 18 = true := by decide +kernel
theorem listsPairs_4_19 : listsPairsGo 4 19 = true := by decide +kernel
theorem listsPairs_5_0 : listsPairsGo 5 0 = true := by decide +kernel
theorem listsPairs_5_1 : listsPairsGo 5 1 = true := by decide +kernel
theorem listsPairs_5_2 : listsPairsGo 5 2 = true := by decide +kernel
theorem listsPairs_5_3 : listsPairsGo 5 3 = true := by decide +kernel
theorem listsPairs_5_4 : listsPairsGo 5 4 = true := by decide +kernel
theorem listsPairs_5_5 : listsPairsGo 5 5 = true := by decide +kernel
theorem listsPairs_5_6 : listsPairsGo 5 6 = true := by decide +kernel
theorem listsPairs_5_7 : listsPairsGo 5 7 = true := by decide +kernel
theorem listsPairs_5_8 : listsPairsGo 5 8 = true := by decide +kernel
theorem listsPairs_5_9 : listsPairsGo 5 9 = true := by decide +kernel
theorem listsPairs_5_10 : listsPairsGo 5 10 = true := by decide +kernel
theorem listsPairs_5_11 : listsPairsGo 5 11 = true := by decide +kernel
end Go.Proofs.Ytlmabmpdbcgabaa.Fin
