/- Cases of the law ListsPairs, each run in the kernel. -/
import Derived.Test.YtlmabmpdbcgabaaFinListsPairsB
namespace Go.Proofs.Ytlmabmpdbcgabaa.Fin
open Go.Proofs.Ytlmabmpdbcgabaa.Fast Go.RowKit
set_option linter.unusedVariables false
set_option maxRecDepth 1000000
theorem listsPairs_16_16 : listsPairsGo 16 16 = true := by decide +kernel
theorem listsPairs_16_17 : listsPairsGo 16 17 = true := by decide +kernel
theorem listsPairs_16_18 : listsPairsGo 16 18 = true := by decide +kernel
theorem listsPairs_16_19 : listsPairsGo 16 19 = true := by decide +kernel
theorem listsPairs_17_0 : listsPairsGo 17 0 = true := by decide +kernel
theorem listsPairs_17_1 : listsPairsGo 17 1 = true := by decide +kernel
theorem listsPairs_17_2 : listsPairsGo 17 2 = true := by decide +kernel
theorem listsPairs_17_3 : listsPairsGo 17 3 = true := by decide +kernel
theorem listsPairs_17_4 : listsPairsGo 17 4 = true := by decide +kernel
theorem listsPairs_17_5 : listsPairsGo 17 5 = true := by decide +kernel
theorem listsPairs_17_6 : listsPairsGo 17 6 = true := by decide +kernel
theorem listsPairs_17_7 : listsPairsGo 17 7 = true := by decide +kernel
theorem listsPairs_17_8 : listsPairsGo 17 8 = true := by decide +kernel
theorem listsPairs_17_9 : listsPairsGo 17 9 = true := by decide +kernel
end Go.Proofs.Ytlmabmpdbcgabaa.Fin
