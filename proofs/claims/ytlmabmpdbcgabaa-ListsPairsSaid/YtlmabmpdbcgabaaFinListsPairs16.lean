/- Cases of the law ListsPairs, each run in the kernel. -/
import Derived.Test.YtlmabmpdbcgabaaFinListsPairsB
namespace Go.Proofs.Ytlmabmpdbcgabaa.Fin
open Go.Proofs.Ytlmabmpdbcgabaa.Fast Go.RowKit
set_option linter.unusedVariables false
set_option maxRecDepth 1000000
theorem listsPairs_11_4 : listsPairsGo 11 4 = true := by decide +kernel
theorem listsPairs_11_5 : listsPairsGo 11 5 = true := by decide +kernel
theorem listsPairs_11_6 : listsPairsGo 11 6 = true := by decide +kernel
theorem listsPairs_11_7 : listsPairsGo 11 7 = true := by decide +kernel
theorem listsPairs_11_8 : listsPairsGo 11 8 = true := by decide +kernel
theorem listsPairs_11_9 : listsPairsGo 11 9 = true := by decide +kernel
theorem listsPairs_11_10 : listsPairsGo 11 10 = true := by decide +kernel
theorem listsPairs_11_11 : listsPairsGo 11 11 = true := by decide +kernel
theorem listsPairs_11_12 : listsPairsGo 11 12 = true := by decide +kernel
theorem listsPairs_11_13 : listsPairsGo 11 13 = true := by decide +kernel
theorem listsPairs_11_14 : listsPairsGo 11 14 = true := by decide +kernel
theorem listsPairs_11_15 : listsPairsGo 11 15 = true := by decide +kernel
theorem listsPairs_11_16 : listsPairsGo 11 16 = true := by decide +kernel
theorem listsPairs_11_17 : listsPairsGo 11 17 = true := by decide +kernel
end Go.Proofs.Ytlmabmpdbcgabaa.Fin
