/- Cases of the law ListsSlices, each run in the kernel. -/
import Derived.Test.YtlmabmpdbcgabaaFinListsSlicesB
namespace Go.Proofs.Ytlmabmpdbcgabaa.Fin
open Go.Proofs.Ytlmabmpdbcgabaa.Fast Go.RowKit
set_option linter.unusedVariables false
set_option maxRecDepth 1000000
theorem ls_23_10 : alls (lsGo 23 (.int .i64 (.ofNat 10))) (cls 23) = true := by decide +kernel
theorem ls_23_11 : alls (lsGo 23 (.int .i64 (.ofNat 11))) (cls 23) = true := by decide +kernel
theorem ls_23_12 : alls (lsGo 23 (.int .i64 (.ofNat 12))) (cls 23) = true := by decide +kernel
theorem ls_23_13 : alls (lsGo 23 (.int .i64 (.ofNat 13))) (cls 23) = true := by decide +kernel
theorem ls_23_14 : alls (lsGo 23 (.int .i64 (.ofNat 14))) (cls 23) = true := by decide +kernel
theorem ls_23_15 : alls (lsGo 23 (.int .i64 (.ofNat 15))) (cls 23) = true := by decide +kernel
theorem ls_23_16 : alls (lsGo 23 (.int .i64 (.ofNat 16))) (cls 23) = true := by decide +kernel
theorem ls_23_17 : alls (lsGo 23 (.int .i64 (.ofNat 17))) (cls 23) = true := by decide +kernel
theorem ls_23_18 : alls (lsGo 23 (.int .i64 (.ofNat 18))) (cls 23) = true := by decide +kernel
theorem ls_23_19 : alls (lsGo 23 (.int .i64 (.ofNat 19))) (cls 23) = true := by decide +kernel
theorem ls_23_20 : alls (lsGo 23 (.int .i64 (.ofNat 20))) (cls 23) = true := by decide +kernel
theorem ls_23_21 : alls (lsGo 23 (.int .i64 (.ofNat 21))) (cls 23) = true := by decide +kernel
theorem ls_23_22 : alls (lsGo 23 (.int .i64 (.ofNat 22))) (cls 23) = true := by decide +kernel
theorem ls_23_23 : alls (lsGo 23 (.int .i64 (.ofNat 23))) (cls 23) = true := by decide +kernel
end Go.Proofs.Ytlmabmpdbcgabaa.Fin
