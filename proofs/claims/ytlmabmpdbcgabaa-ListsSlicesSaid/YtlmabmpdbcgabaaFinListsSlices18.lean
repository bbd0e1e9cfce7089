/- Cases of the law ListsSlices, each run in the kernel. -/
import Derived.Test.YtlmabmpdbcgabaaFinListsSlicesB
namespace Go.Proofs.Ytlmabmpdbcgabaa.Fin
open Go.Proofs.Ytlmabmpdbcgabaa.Fast Go.RowKit
set_option linter.unusedVariables false
set_option maxRecDepth 1000000
theorem ls_26_7 : alls (lsGo 26 (.int .i64 (.ofNat 7))) (cls 26) = true := by decide +kernel
theorem ls_26_8 : alls (lsGo 26 (.int .i64 (.ofNat 8))) (cls 26) = true := by decide +kernel
theorem ls_26_9 : alls (lsGo 26 (.int .i64 (.ofNat 9))) (cls 26) = true := by decide +kernel
theorem ls_26_10 : alls (lsGo 26 (.int .i64 (.ofNat 10))) (cls 26) = true := by decide +kernel
theorem ls_26_11 : alls (lsGo 26 (.int .i64 (.ofNat 11))) (cls 26) = true := by decide +kernel
theorem ls_26_12 : alls (lsGo 26 (.int .i64 (.ofNat 12))) (cls 26) = true := by decide +kernel
theorem ls_26_13 : alls (lsGo 26 (.int .i64 (.ofNat 13))) (cls 26) = true := by decide +kernel
theorem ls_26_14 : alls (lsGo 26 (.int .i64 (.ofNat 14))) (cls 26) = true := by decide +kernel
theorem ls_26_15 : alls (lsGo 26 (.int .i64 (.ofNat 15))) (cls 26) = true := by decide +kernel
theorem ls_26_16 : alls (lsGo 26 (.int .i64 (.ofNat 16))) (cls 26) = true := by decide +kernel
theorem ls_26_17 : alls (lsGo 26 (.int .i64 (.ofNat 17))) (cls 26) = true := by decide +kernel
end Go.Proofs.Ytlmabmpdbcgabaa.Fin
