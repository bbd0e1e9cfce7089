/- Cases of the law ListsPairs, each run in the kernel. -/
import Derived.Test.YtlmabmpdbcgabaaFinListsPairsB
namespace Go.Proofs.Ytlmabmpdbcgabaa.Fin
open Go.Proofs.Ytlmabmpdbcgabaa.Fast Go.RowKit
set_option linter.unusedVariables false
set_option maxRecDepth 1000000
theorem listsPairs_5_12 : listsPairsGo 5 12 = true := by decide +kernel
theorem listsPairs_5_13 : listsPairsGo 5 13 = true := by decide +kernel
theorem listsPairs_5_14 : listsPairsGo 5 14 = true := by decide +kernel
theorem listsPairs_5_15 : listsPairsGo 5 15 = true := by decide +kernel
theorem listsPairs_5_16 : listsPairsGo 5 16 = true := by decide +kernel
theorem listsPairs_5_17 : listsPairsGo 5 17 = true := by decide +kernel
theorem listsPairs_5_18 : listsPairsGo 5 18 = true := by decide +kernel
theorem listsPairs_5_19 : listsPairsGo 5 19 = true := by decide +kernel
theorem listsPairs_6_0 : listsPairsGo 6 0 = true := by decide +kernel
theorem listsPairs_6_1 : listsPairsGo 6 1 = true := by decide +kernel
theorem listsPairs_6_2 : listsPairsGo 6 2 = true := by decide +kernel
theorem listsPairs_6_3 : listsPairsGo 6 3 = true := by decide +kernel
theorem listsPairs_6_4 : listsPairsGo 6 4 = true := by decide +kernel
theorem listsPairs_6_5 : listsPairsGo 6 5 = true := by decide +kernel
end Go.Proofs.Ytlmabmpdbcgabaa.Fin
