/- Cases of the law ListsSlices, each run in the kernel. -/
import Derived.Test.YtlmabmpdbcgabaaFinListsSlicesB
namespace Go.Proofs.Ytlmabmpdbcgabaa.Fin
open Go.Proofs.Ytlmabmpdbcgabaa.Fast Go.RowKit
set_option linter.unusedVariables false
set_option maxRecDepth 1000000
theorem ls_28_22 : alls (lsGo 28 (.int .i64 (.ofNat 22))) (cls 28) = true := by decide +kernel
theorem ls_28_23 : alls (lsGo 28 (.int .i64 (.ofNat 23))) (cls 28) = true := by decide +kernel
theorem ls_28_24 : alls (lsGo 28 (.int .i64 (.ofNat 24))) (cls 28) = true := by decide +kernel
theorem ls_28_25 : alls (lsGo 28 (.int .i64 (.ofNat 25))) (cls 28) = true := by decide +kernel
theorem ls_28_26 : alls (lsGo 28 (.int .i64 (.ofNat 26))) (cls 28) = true := by decide +kernel
theorem ls_28_27 : alls (lsGo 28 (.int .i64 (.ofNat 27))) (cls 28) = true := by decide +kernel
theorem ls_28_28 : alls (lsGo 28 (.int .i64 (.ofNat 28))) (cls 28) = true := by decide +kernel
theorem ls_28_29 : alls (lsGo 28 (.ge (.ofNat 29))) (cls 28) = true := by decide +kernel
theorem ls_29_0 : alls (lsGo 29 (.le 0)) (cls 29) = true := by decide +kernel
theorem ls_29_1 : alls (lsGo 29 (.int .i64 (.ofNat 1))) (cls 29) = true := by decide +kernel
end Go.Proofs.Ytlmabmpdbcgabaa.Fin
