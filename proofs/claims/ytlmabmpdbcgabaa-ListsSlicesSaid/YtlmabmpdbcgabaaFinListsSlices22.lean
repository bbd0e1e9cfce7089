/- Cases of the law ListsSlices, each run in the kernel. -/
import Derived.Test.YtlmabmpdbcgabaaFinListsSlicesB
namespace Go.Proofs.Ytlmabmpdbcgabaa.Fin
open Go.Proofs.Ytlmabmpdbcgabaa.Fast Go.RowKit
set_option linter.unusedVariables false
set_option maxRecDepth 1000000
theorem ls_27_21 : alls (lsGo 27 (.int .i64 (.ofNat 21))) (cls 27) = true := by decide +kernel
theorem ls_27_22 : alls (lsGo 27 (.int .i64 (.ofNat 22))) (cls 27) = true := by decide +kernel
theorem ls_27_23 : alls (lsGo 27 (.int .i64 (.ofNat 23))) (cls 27) = true := by decide +kernel
theorem ls_27_24 : alls (lsGo 27 (.int .i64 (.ofNat 24))) (cls 27) = true := by decide +kernel
theorem ls_27_25 : alls (lsGo 27 (.int .i64 (.ofNat 25))) (cls 27) = true := by decide +kernel
theorem ls_27_26 : alls (lsGo 27 (.int .i64 (.ofNat 26))) (cls 27) = true := by decide +kernel
theorem ls_27_27 : alls (lsGo 27 (.int .i64 (.ofNat 27))) (cls 27) = true := by decide +kernel
theorem ls_27_28 : alls (lsGo 27 (.ge (.ofNat 28))) (cls 27) = true := by decide +kernel
theorem ls_28_0 : alls (lsGo 28 (.le 0)) (cls 28) = true := by decide +kernel
theorem ls_28_1 : alls (lsGo 28 (.int .i64 (.ofNat 1))) (cls 28) = true := by decide +kernel
end Go.Proofs.Ytlmabmpdbcgabaa.Fin
