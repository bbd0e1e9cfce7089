/- Cases of the law ListsSlices, each run in the kernel. -/
import Derived.Test.YtlmabmpdbcgabaaFinListsSlicesB
namespace Go.Proofs.Ytlmabmpdbcgabaa.Fin
open Go.Proofs.Ytlmabmpdbcgabaa.Fast Go.RowKit
set_option linter.unusedVariables false
set_option maxRecDepth 1000000
theorem ls_29_20 : alls (lsGo 29 (.int .i64 (.ofNat 20))) (cls 29) = true := by decide +kernel
theorem ls_29_21 : alls (lsGo 29 (.int .i64 (.ofNat 21))) (cls 29) = true := by decide +kernel
theorem ls_29_22 : alls (lsGo 29 (.int .i64 (.ofNat 22))) (cls 29) = true := by decide +kernel
theorem ls_29_23 : alls (lsGo 29 (.int .i64 (.ofNat 23))) (cls 29) = true := by decide +kernel
theorem ls_29_24 : alls (lsGo 29 (.int .i64 (.ofNat 24))) (cls 29) = true := by decide +kernel
theorem ls_29_25 : alls (lsGo 29 (.int .i64 (.ofNat 25))) (cls 29) = true := by decide +kernel
theorem ls_29_26 : alls (lsGo 29 (.int .i64 (.ofNat 26))) (cls 29) = true := by decide +kernel
theorem ls_29_27 : alls (lsGo 29 (.int .i64 (.ofNat 27))) (cls 29) = true := by decide +kernel
theorem ls_29_28 : alls (lsGo 29 (.int .i64 (.ofNat 28))) (cls 29) = true := by decide +kernel
end Go.Proofs.Ytlmabmpdbcgabaa.Fin
