/- Cases of the law ListsPairs, each run in the kernel. -/
import Derived.Test.YtlmabmpdbcgabaaFinListsPairsB
namespace Go.Proofs.Ytlmabmpdbcgabaa.Fin
open Go.Proofs.Ytlmabmpdbcgabaa.Fast Go.RowKit
set_option linter.unusedVariables false
set_option maxRecDepth 1000000
theorem listsPairs_7_14 : listsPairsGo 7 14 = true := by decide +kernel
theorem listsPairs_7_15 : listsPairsGo 7 15 = true := by decide +kernel
theorem listsPairs_7_16 : listsPairsGo 7 16 = true := by decide +kernel
theorem listsPairs_7_17 : listsPairsGo 7 17 = true := by decide +kernel
theorem listsPairs_7_18 : listsPairsGo 7 18 = true := by decide +kernel
theorem listsPairs_7_19 : listsPairsGo 7 19 = true := by decide +kernel
theorem listsPairs_8_0 : listsPairsGo 8 0 = true := by decide +kernel
theorem listsPairs_8_1 : listsPairsGo 8 1 = true := by decide +kernel
theorem listsPairs_8_2 : listsPairsGo 8 2 = true := by decide +kernel
theorem listsPairs_8_3 : listsPairsGo 8 3 = true := by decide +kernel
theorem listsPairs_8_4 : listsPairsGo 8 4 = true := by decide +kernel
theorem listsPairs_8_5 : listsPairsGo 8 5 = true := by decide +kernel
theorem listsPairs_8_6 : listsPairsGo 8 6 = true := by decide +kernel
theorem listsPairs_8_7 : listsPairsGo 8 7 = true := by decide +kernel
end Go.Proofs.Ytlmabmpdbcgabaa.Fin
