/- Cases of the law ListsPairs, each run in the kernel. -/
import Derived.Test.YtlmabmpdbcgabaaFinListsPairsB
namespace Go.Proofs.Ytlmabmpdbcgabaa.Fin
open Go.Proofs.Ytlmabmpdbcgabaa.Fast Go.RowKit
set_option linter.unusedVariables false
set_option maxRecDepth 1000000
theorem listsPairs_11_18 : listsPairsGo 11 18 = true := by decide +kernel
theorem listsPairs_11_19 : listsPairsGo 11 19 = true := by decide +kernel
theorem listsPairs_12_0 : listsPairsGo 12 0 = true := by decide +kernel
theorem listsPairs_12_1 : listsPairsGo 12 1 = true := by decide +kernel
theorem listsPairs_12_2 : listsPairsGo 12 2 = true := by decide +kernel
theorem listsPairs_12_3 : listsPairsGo 12 3 = true := by decide +kernel
theorem listsPairs_12_4 : listsPairsGo 12 4 = true := by decide +kernel
theorem listsPairs_12_5 : listsPairsGo 12 5 = true := by decide +kernel
theorem listsPairs_12_6 : listsPairsGo 12 6 = true := by decide +kernel
theorem listsPairs_12_7 : listsPairsGo 12 7 = true := by decide +kernel
theorem listsPairs_12_8 : listsPairsGo 12 8 = true := by decide +kernel
theorem listsPairs_12_9 : listsPairsGo 12 9 = true := by decide +kernel
theorem listsPairs_12_10 : listsPairsGo 12 10 = true := by decide +kernel
theorem listsPairs_12_11 : listsPairsGo 12 11 = true := by decide +kernel
end Go.Proofs.Ytlmabmpdbcgabaa.Fin
