/- Cases of the law ListsSlices, each run in the kernel. -/
import Derived.Test.YtlmabmpdbcgabaaFinListsSlicesB
namespace Go.Proofs.Ytlmabmpdbcgabaa.Fin
open Go.Proofs.Ytlmabmpdbcgabaa.Fast Go.RowKit
set_option linter.unusedVariables false
set_option maxRecDepth 1000000
theorem ls_29_2 : alls (lsGo 29 (.int .i64 (.ofNat 2))) (cls 29) = true := by decide +kernel
theorem ls_29_3 : alls (lsGo 29 (.int .i64 (.ofNat 3))) (cls 29) = true := by decide +kernel
theorem ls_29_4 : alls (lsGo 29 (.int .i64 (.ofNat 4))) (cls 29) = true := by decide +kernel
theorem ls_29_5 : alls (lsGo 29 (.int .i64 (.ofNat 5))) (cls 29) = true := by decide +kernel
theorem ls_29_6 : alls (lsGo 29 (.int .i64 (.ofNat 6))) (cls 29) = true := by decide +kernel
theorem ls_29_7 : alls (lsGo 29 (.int .i64 (.ofNat 7))) (cls 29) = true := by decide +kernel
theorem ls_29_8 : alls (lsGo 29 (.int .i64 (.ofNat 8))) (cls 29) = true := by decide +kernel
theorem ls_29_9 : alls (lsGo 29 (.int .i64 (.ofNat 9))) (cls 29) = true := by decide +kernel
theorem ls_29_10 : alls (lsGo 29 (.int .i64 (.ofNat 10))) (cls 29) = true := by decide +kernel
end Go.Proofs.Ytlmabmpdbcgabaa.Fin
