/- Cases of the law ListsSlices, each run in the kernel. -/
import Derived.Test.YtlmabmpdbcgabaaFinListsSlicesB
namespace Go.Proofs.Ytlmabmpdbcgabaa.Fin
open Go.Proofs.Ytlmabmpdbcgabaa.Fast Go.RowKit
set_option linter.unusedVariables false
set_option maxRecDepth 1000000
theorem ls_22_20 : alls (lsGo 22 (.int .i64 (.ofNat 20))) (cls 22) = true := by decide +kernel
theorem ls_22_21 : alls (lsGo 22 (.int .i64 (.ofNat 21))) (cls 22) = true := by decide +kernel
theorem ls_22_22 : alls (lsGo 22 (.int .i64 (.ofNat 22))) (cls 22) = true := by decide +kernel
theorem ls_22_23 : alls (lsGo 22 (.ge (.ofNat 23))) (cls 22) = true := by decide +kernel
theorem ls_23_0 : alls (lsGo 23 (.le 0)) (cls 23) = true := by decide +kernel
theorem ls_23_1 : alls (lsGo 23 (.int .i64 (.ofNat 1))) (cls 23) = true := by decide +kernel
theorem ls_23_2 : alls (lsGo 23 (.int .i64 (.ofNat 2))) (cls 23) = true := by decide +kernel
theorem ls_23_3 : alls (lsGo 23 (.int .i64 (.ofNat 3))) (cls 23) = true := by decide +kernel
theorem ls_23_4 : alls (lsGo 23 (.int .i64 (.ofNat 4))) (cls 23) = true := by decide +kernel
theorem ls_23_5 : alls (lsGo 23 (.int .i64 (.ofNat 5))) (cls 23) = true := by decide +kernel
theorem ls_23_6 : alls (lsGo 23 (.int .i64 (.ofNat 6))) (cls 23) = true := by decide +kernel
theorem ls_23_7 : alls (lsGo 23 (.int .i64 (.ofNat 7))) (cls 23) = true := by decide +kernel
theorem ls_23_8 : alls (lsGo 23 (.int .i64 (.ofNat 8))) (cls 23) = true := by decide +kernel
theorem ls_23_9 : alls (lsGo 23 (.int .i64 (.ofNat 9))) (cls 23) = true := by decide +kernel
end Go.Proofs.Ytlmabmpdbcgabaa.Fin
