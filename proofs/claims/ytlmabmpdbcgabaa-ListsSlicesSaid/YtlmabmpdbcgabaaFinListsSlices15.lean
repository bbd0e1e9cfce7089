/- Cases of the law ListsSlices, each run in the kernel. -/
import Derived.Test.YtlmabmpdbcgabaaFinListsSlicesB
namespace Go.Proofs.Ytlmabmpdbcgabaa.Fin
open Go.Proofs.Ytlmabmpdbcgabaa.Fast Go.RowKit
set_option linter.unusedVariables false
set_option maxRecDepth 1000000
theorem ls_24_25 : alls (lsGo 24 (.ge (.ofNat 25))) (cls 24) = true := by decide +kernel
theorem ls_25_0 : alls (lsGo 25 (.le 0)) (cls 25) = true := by decide +kernel
theorem ls_25_1 : alls (lsGo 25 (.int .i64 (.ofNat 1))) (cls 25) = true := by decide +kernel
theorem ls_25_2 : alls (lsGo 25 (.int .i64 (.ofNat 2))) (cls 25) = true := by decide +kernel
theorem ls_25_3 : alls (lsGo 25 (.int .i64 (.ofNat 3))) (cls 25) = true := by decide +kernel
theorem ls_25_4 : alls (lsGo 25 (.int .i64 (.ofNat 4))) (cls 25) = true := by decide +kernel
theorem ls_25_5 : alls (lsGo 25 (.int .i64 (.ofNat 5))) (cls 25) = true := by decide +kernel
theorem ls_25_6 : alls (lsGo 25 (.int .i64 (.ofNat 6))) (cls 25) = true := by decide +kernel
theorem ls_25_7 : alls (lsGo 25 (.int .i64 (.ofNat 7))) (cls 25) = true := by decide +kernel
theorem ls_25_8 : alls (lsGo 25 (.int .i64 (.ofNat 8))) (cls 25) = true := by decide +kernel
theorem ls_25_9 : alls (lsGo 25 (.int .i64 (.ofNat 9))) (cls 25) = true := by decide +kernel
theorem ls_25_10 : alls (lsGo 25 (.int .i64 (.ofNat 10))) (cls 25) = true := by decide +kernel
end Go.Proofs.Ytlmabmpdbcgabaa.Fin
