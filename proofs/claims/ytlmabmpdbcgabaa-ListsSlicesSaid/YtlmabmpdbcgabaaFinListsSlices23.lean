/- Cases of the law ListsSlices, each run in the kernel. -/
import Derived.Test.YtlmabmpdbcgabaaFinListsSlicesB
namespace Go.Proofs.Ytlmabmpdbcgabaa.Fin
open Go.Proofs.Ytlmabmpdbcgabaa.Fast Go.RowKit
set_option linter.unusedVariables false
set_option maxRecDepth 1000000
theorem ls_28_2 : alls (lsGo 28 (.int .i64 (.ofNat 2))) (cls 28) = true := by decide +kernel
theorem ls_28_3 : alls (lsGo 28 (.int .i64 (.ofNat 3))) (cls 28) = true := by decide +kernel
theorem ls_28_4 : alls (lsGo 28 (.int .i64 (.ofNat 4))) (cls 28) = true := by decide +kernel
theorem ls_28_5 : alls (lsGo 28 (.int .i64 (.ofNat 5))) (cls 28) = true := by decide +kernel
theorem ls_28_6 : alls (lsGo 28 (.int .i64 (.ofNat 6))) (cls 28) = true := by decide +kernel
theorem ls_28_7 : alls (lsGo 28 (.int .i64 (.ofNat 7))) (cls 28) = true := by decide +kernel
theorem ls_28_8 : alls (lsGo 28 (.int .i64 (.ofNat 8))) (cls 28) = true := by decide +kernel
theorem ls_28_9 : alls (lsGo 28 (.int .i64 (.ofNat 9))) (cls 28) = true := by decide +kernel
theorem ls_28_10 : alls (lsGo 28 (.int .i64 (.ofNat 10))) (cls 28) = true := by decide +kernel
theorem ls_28_11 : alls (lsGo 28 (.int .i64 (.ofNat 11))) (cls 28) = true := by decide +kernel
end Go.Proofs.Ytlmabmpdbcgabaa.Fin
