/- Cases of the law ListsSlices, each run in the kernel. -/
import Derived.Test.YtlmabmpdbcgabaaFinListsSlicesB
namespace Go.Proofs.Ytlmabmpdbcgabaa.Fin
open Go.Proofs.Ytlmabmpdbcgabaa.Fast Go.RowKit
set_option linter.unusedVariables false
set_option maxRecDepth 1000000
theorem ls_25_11 : alls (lsGo 25 (.int .i64 (.ofNat 11))) (cls 25) = true := by decide +kernel
theorem ls_25_12 : alls (lsGo 25 (.int .i64 (.ofNat 12))) (cls 25) = true := by decide +kernel
theorem ls_25_13 : alls (lsGo 25 (.int .i64 (.ofNat 13))) (cls 25) = true := by decide +kernel
theorem ls_25_14 : alls (lsGo 25 (.int .i64 (.ofNat 14))) (cls 25) = true := by decide +kernel
theorem ls_25_15 : alls (lsGo 25 (.int .i64 (.ofNat 15))) (cls 25) = true := by decide +kernel
theorem ls_25_16 : alls (lsGo 25 (.int .i64 (.ofNat 16))) (cls 25) = true := by decide +kernel
theorem ls_25_17 : alls (lsGo 25 (.int .i64 (.ofNat 17))) (cls 25) = true := by decide +kernel
theorem ls_25_18 : alls (lsGo 25 (.int .i64 (.ofNat 18))) (cls 25) = true := by decide +kernel
theorem ls_25_19 : alls (lsGo 25 (.int .i64 (.ofNat 19))) (cls 25) = true := by decide +kernel
theorem ls_25_20 : alls (lsGo 25 (.int .i64 (.ofNat 20))) (cls 25) = true := by decide +kernel
theorem ls_25_21 : alls (lsGo 25 (.int .i64 (.ofNat 21))) (cls 25) = true := by decide +kernel
theorem ls_25_22 : alls (lsGo 25 (.int .i64 (.ofNat 22))) (cls 25) = true := by decide +kernel
end Go.Proofs.Ytlmabmpdbcgabaa.Fin
