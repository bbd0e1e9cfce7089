/- Cases of the law ListsPairs, each run in the kernel. -/
import Derived.Test.YtlmabmpdbcgabaaFinListsPairsB
namespace Go.Proofs.Ytlmabmpdbcgabaa.Fin
open Go.Proofs.Ytlmabmpdbcgabaa.Fast Go.RowKit
set_option linter.unusedVariables false
set_option maxRecDepth 1000000
theorem listsPairs_6_6 : listsPairsGo 6 6 = true := by decide +kernel
theorem listsPairs_6_7 : listsPairsGo 6 7 = true := by decide +kernel
theorem listsPairs_6_8 : listsPairsGo 6 8 = true := by decide +kernel
theorem listsPairs_6_9 : listsPairsGo 6 9 = true := by decide +kernel
theorem listsPairs_6_10 : listsPairsGo 6 10 = true := by decide +kernel
theorem listsPairs_6_11 : listsPairsGo 6 11 = true := by decide +kernel
theorem listsPairs_6_12 : listsPairsGo 6 12 = true := by decide +kernel
theorem listsPairs_6_13 : listsPairsGo 6 13 = true := by decide +kernel
theorem listsPairs_6_14 : listsPairsGo 6 14 = true := by decide +kernel
theorem listsPairs_6_15 : listsPairsGo 6 15 = true := by decide +kernel
theorem listsPairs_6_16 : listsPairsGo 6 16 = true := by decide +kernel
theorem listsPairs_6_17 : listsPairsGo 6 17 = true := by decide +kernel
theorem listsPairs_6_18 : listsPairsGo 6 18 = true := by decide +kernel
theorem listsPairs_6_19 : listsPairsGo 6 19 = true := by decide +kernel
end Go.Proofs.Ytlmabmpdbcgabaa.Fin
