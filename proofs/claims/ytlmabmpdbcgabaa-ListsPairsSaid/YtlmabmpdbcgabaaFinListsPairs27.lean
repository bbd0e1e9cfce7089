/- Cases of the law ListsPairs, each run in the kernel. -/
import Derived.Test.YtlmabmpdbcgabaaFinListsPairsB
namespace Go.Proofs.Ytlmabmpdbcgabaa.Fin
open Go.Proofs.Ytlmabmpdbcgabaa.Fast Go.RowKit
set_option linter.unusedVariables false
set_option maxRecDepth 1000000
theorem listsPairs_18_18 : listsPairsGo 18 18 = true := by decide +kernel
theorem listsPairs_18_19 : listsPairsGo 18 19 = true := by decide +kernel
theorem listsPairs_19_0 : listsPairsGo 19 0 = true := by decide +kernel
theorem listsPairs_19_1 : listsPairsGo 19 1 = true := by decide +kernel
theorem listsPairs_19_2 : listsPairsGo 19 2 = true := by decide +kernel
theorem listsPairs_19_3 : listsPairsGo 19 3 = true := by decide +kernel
theorem listsPairs_19_4 : listsPairsGo 19 4 = true := by decide +kernel
theorem listsPairs_19_5 : listsPairsGo 19 5 = true := by decide +kernel
theorem listsPairs_19_6 : listsPairsGo 19 6 = true := by decide +kernel
theorem listsPairs_19_7 : listsPairsGo 19 7 = true := by decide +kernel
theorem listsPairs_19_8 : listsPairsGo 19 8 = true := by decide +kernel
theorem listsPairs_19_9 : listsPairsGo 19 9 = true := by decide +kernel
theorem listsPairs_19_10 : listsPairsGo 19 10 = true := by decide +kernel
theorem listsPairs_19_11 : listsPairsGo 19 11 = true := by decide +kernel
end Go.Proofs.Ytlmabmpdbcgabaa.Fin
