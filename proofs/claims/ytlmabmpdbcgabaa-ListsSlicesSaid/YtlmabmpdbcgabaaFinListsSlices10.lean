/- Cases of the law ListsSlices, each run in the kernel. -/
import Derived.Test.YtlmabmpdbcgabaaFinListsSlicesB
namespace Go.Proofs.Ytlmabmpdbcgabaa.Fin
open Go.Proofs.Ytlmabmpdbcgabaa.Fast Go.RowKit
set_option linter.unusedVariables false
set_option maxRecDepth 1000000
theorem ls_22_5 : alls (lsGo 22 (.int .i64 (.ofNat 5))) (cls 22) = true := by decide +kernel
theorem ls_22_6 : alls (lsGo 22 (.int .i64 (.ofNat 6))) (cls 22) = true := by decide +kernel
theorem ls_22_7 : alls (lsGo 22 (.int .i64 (.ofNat 7))) (cls 22) = true := by decide +kernel
theorem ls_22_8 : alls (lsGo 22 (.int .i64 (.ofNat 8))) (cls 22) = true := by decide +kernel
theorem ls_22_9 : alls (lsGo 22 (.int .i64 (.ofNat 9))) (cls 22) = true := by decide +kernel
theorem ls_22_10 : alls (lsGo 22 (.int .i64 (.ofNat 10))) (cls 22) = true := by decide +kernel
theorem ls_22_11 : alls (lsGo 22 (.int .i64 (.ofNat 11))) (cls 22) = true := by decide +kernel
theorem ls_22_12 : alls (lsGo 22 (.int .i64 (.ofNat 12))) (cls 22) = true := by decide +kernel
theorem ls_22_13 : alls (lsGo 22 (.int .i64 (.ofNat 13))) (cls 22) = true := by decide +kernel
theorem ls_22_14 : alls (lsGo 22 (.int .i64 (.ofNat 14))) (cls 22) = true := by decide +kernel
theorem ls_22_15 : alls (lsGo 22 (.int .i64 (.ofNat 15))) (cls 22) = true := by decide +kernel
theorem ls_22_16 : alls (lsGo 22 (.int .i64 (.ofNat 16))) (cls 22) = true := by decide +kernel
theorem ls_22_17 : alls (lsGo 22 (.int .i64 (.ofNat 17))) (cls 22) = true := by decide +kernel
theorem ls_22_18 : alls (lsGo 22 (.int .i64 (.ofNat 18))) (cls 22) = true := by decide +kernel
theorem ls_22_19 : alls (lsGo 22 (.int .i64 (.ofNat 19))) (cls 22) = true := by decide +kernel
end Go.Proofs.Ytlmabmpdbcgabaa.Fin
