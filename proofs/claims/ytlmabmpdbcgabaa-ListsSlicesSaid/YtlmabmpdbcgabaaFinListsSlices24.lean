/- Cases of the law ListsSlices, each run in the kernel. -/
import Derived.Test.YtlmabmpdbcgabaaFinListsSlicesB
namespace Go.Proofs.Ytlmabmpdbcgabaa.Fin
open Go.Proofs.Ytlmabmpdbcgabaa.Fast Go.RowKit
set_option linter.unusedVariables false
set_option maxRecDepth 1000000
theorem ls_28_12 : alls (lsGo 28 (.int .i64 (.ofNat 12))) (cls 28) = true := by decide +kernel
theorem ls_28_13 : alls (lsGo 28 (.int .i64 (.ofNat 13))) (cls 28) = true := by decide +kernel
theorem ls_28_14 : alls (lsGo 28 (.int .i64 (.ofNat 14))) (cls 28) = true := by decide +kernel
theorem ls_28_15 : alls (lsGo 28 (.int .i64 (.ofNat 15))) (cls 28) = true := by decide +kernel
theorem ls_28_16 : alls (lsGo 28 (.int .i64 (.ofNat 16))) (cls 28) = true := by decide +kernel
theorem ls_28_17 : alls (lsGo 28 (.int .i64 (.ofNat 17))) (cls 28) = true := by decide +kernel
theorem ls_28_18 : alls (lsGo 28 (.int .i64 (.ofNat 18))) (cls 28) = true := by decide +kernel
theorem ls_28_19 : alls (lsGo 28 (.int .i64 (.ofNat 19))) (cls 28) = true := by decide +kernel
theorem ls_28_20 : alls (lsGo 28 (.int .i64 (.ofNat 20))) (cls 28) = true := by decide +kernel
theorem ls_28_21 : alls (lsGo 28 (.int .i64 (.ofNat 21))) (cls 28) = true := by decide +kernel
end Go.Proofs.Ytlmabmpdbcgabaa.Fin
