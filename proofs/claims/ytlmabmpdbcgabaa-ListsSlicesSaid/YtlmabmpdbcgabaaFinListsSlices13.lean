/- Cases of the law ListsSlices, each run in the kernel. -/
import Derived.Test.YtlmabmpdbcgabaaFinListsSlicesB
namespace Go.Proofs.Ytlmabmpdbcgabaa.Fin
open Go.Proofs.Ytlmabmpdbcgabaa.Fast Go.RowKit
set_option linter.unusedVariables false
set_option maxRecDepth 1000000
theorem ls_23_24 : alls (lsGo 23 (.ge (.ofNat 24))) (cls 23) = true := by decide +kernel
theorem ls_24_0 : alls (lsGo 24 (.le 0)) (cls 24) = true := by decide +kernel
theorem ls_24_1 : alls (lsGo 24 (.int .i64 (.ofNat 1))) (cls 24) = true := by decide +kernel
theorem ls_24_2 : alls (lsGo 24 (.int .i64 (.ofNat 2))) (cls 24) = true := by decide +kernel
theorem ls_24_3 : alls (lsGo 24 (.int .i64 (.ofNat 3))) (cls 24) = true := by decide +kernel
theorem ls_24_4 : alls (lsGo 24 (.int .i64 (.ofNat 4))) (cls 24) = true := by decide +kernel
theorem ls_24_5 : alls (lsGo 24 (.int .i64 (.ofNat 5))) (cls 24) = true := by decide +kernel
theorem ls_24_6 : alls (lsGo 24 (.int .i64 (.ofNat 6))) (cls 24) = true := by decide +kernel
theorem ls_24_7 : alls (lsGo 24 (.int .i64 (.ofNat 7))) (cls 24) = true := by decide +kernel
theorem ls_24_8 : alls (lsGo 24 (.int .i64 (.ofNat 8))) (cls 24) = true := by decide +kernel
theorem ls_24_9 : alls (lsGo 24 (.int .i64 (.ofNat 9))) (cls 24) = true := by decide +kernel
theorem ls_24_10 : alls (lsGo 24 (.int .i64 (.ofNat 10))) (cls 24) = true := by decide +kernel
theorem ls_24_11 : alls (lsGo 24 (.int .i64 (.ofNat 11))) (cls 24) = true := by decide +kernel
end Go.Proofs.Ytlmabmpdbcgabaa.Fin
