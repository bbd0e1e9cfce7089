/- Cases of the law ListsPairs, each run in the kernel. -/
import Derived.Test.YtlmabmpdbcgabaaFinListsPairsB
namespace Go.Proofs.Ytlmabmpdbcgabaa.Fin
open Go.Proofs.Ytlmabmpdbcgabaa.Fast Go.RowKit
set_option linter.unusedVariables false
set_option maxRecDepth 1000000
theorem listsPairs_9_16 : listsPairsGo 9 16 = true := by decide +kernel
theorem listsPairs_9_17 : listsPairsGo 9 17 = true := by decide +kernel
theorem listsPairs_9_18 : listsPairsGo 9 18 = true := by decide +kernel
theorem listsPairs_9_19 : listsPairsGo 9 19 = true := by decide +kernel
theorem listsPairs_10_0 : listsPairsGo 10 0 = true := by decide +kernel
theorem listsPairs_10_1 : listsPairsGo 10 1 = true := by decide +kernel
theorem listsPairs_10_2 : listsPairsGo 10 2 = true := by decide +kernel
theorem listsPairs_10_3 : listsPairsGo 10 3 = true := by decide +kernel
theorem listsPairs_10_4 : listsPairsGo 10 4 = true := by decide +kernel
theorem listsPairs_10_5 : listsPairsGo 10 5 = true := by decide +kernel
theorem listsPairs_10_6 : listsPairsGo 10 6 = true := by decide +kernel
theorem listsPairs_10_7 : listsPairsGo 10 7 = true := by decide +kernel
theorem listsPairs_10_8 : listsPairsGo 10 8 = true := by decide +kernel
theorem listsPairs_10_9 : listsPairsGo 10 9 = true := by decide +kernel
end Go.Proofs.Ytlmabmpdbcgabaa.Fin
