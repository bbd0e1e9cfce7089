/- Cases of the law ListsPairs, each run in the kernel. -/
import Derived.Test.YtlmabmpdbcgabaaFinListsPairsB
namespace Go.Proofs.Ytlmabmpdbcgabaa.Fin
open Go.Proofs.Ytlmabmpdbcgabaa.Fast Go.RowKit
set_option linter.unusedVariables false
set_option maxRecDepth 1000000
theorem listsPairs_19_12 : listsPairsGo 19 12 = true := by decide +kernel
theorem listsPairs_19_13 : listsPairsGo 19 13 = true := by decide +kernel
theorem listsPairs_19_14 : listsPairsGo 19 14 = true := by decide +kernel
theorem listsPairs_19_15 : listsPairsGo 19 15 = true := by decide +kernel
theorem listsPairs_19_16 : listsPairsGo 19 16 = true := by decide +kernel
theorem listsPairs_19_17 : listsPairsGo 19 17 = true := by decide +kernel
theorem listsPairs_19_18 : listsPairsGo 19 18 = true := by decide +kernel
theorem listsPairs_19_19 : listsPairsGo 19 19 = true := by decide +kernel
end Go.Proofs.Ytlmabmpdbcgabaa.Fin
