/- Cases of the law ListsSlices, each run in the kernel. -/
import Derived.Test.YtlmabmpdbcgabaaFinListsSlicesB
namespace Go.Proofs.Ytlmabmpdbcgabaa.Fin
open Go.Proofs.Ytlmabmpdbcgabaa.Fast Go.RowKit
set_option linter.unusedVariables false
set_option maxRecDepth 1000000
theorem ls_27_1 : alls (lsGo 27 (.int .i64 (.ofNat 1))) (cls 27) = true := by decide +kernel
theorem ls_27_2 : alls (lsGo 27 (.int .i64 (.ofNat 2))) (cls 27) = true := by decide +kernel
theorem ls_27_3 : alls (lsGo 27 (.int .i64 (.ofNat 3))) (cls 27) = true := by decide +kernel
theorem ls_27_4 : alls (lsGo 27 (.int .i64 (.ofNat 4))) (cls 27) = true := by decide +kernel
theorem ls_27_5 : alls (lsGo 27 (.int .i64 (.ofNat 5))) (cls 27) = true := by decide +kernel
theorem ls_27_6 : alls (lsGo 27 (.int .i64 (.ofNat 6))) (cls 27) = true := by decide +kernel
theorem ls_27_7 : alls (lsGo 27 (.int .i64 (.ofNat 7))) (cls 27) = true := by decide +kernel
theorem ls_27_8 : alls (lsGo 27 (.int .i64 (.ofNat 8))) (cls 27) = true := by decide +kernel
theorem ls_27_9 : alls (lsGo 27 (.int .i64 (.ofNat 9))) (cls 27) = true := by decide +kernel
theorem ls_27_10 : alls (lsGo 27 (.int .i64 (.ofNat 10))) (cls 27) = true := by decide +kernel
end Go.Proofs.Ytlmabmpdbcgabaa.Fin
