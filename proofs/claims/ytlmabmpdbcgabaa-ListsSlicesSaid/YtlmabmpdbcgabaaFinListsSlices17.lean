/- Cases of the law ListsSlices, each run in the kernel. -/
import Derived.Test.YtlmabmpdbcgabaaFinListsSlicesB
namespace Go.Proofs.Ytlmabmpdbcgabaa.Fin
open Go.Proofs.Ytlmabmpdbcgabaa.Fast Go.RowKit
set_option linter.unusedVariables false
set_option maxRecDepth 1000000
theorem ls_25_23 : alls (lsGo 25 (.int .i64 (.ofNat 23))) (cls 25) = true := by decide +kernel
theorem ls_25_24 : alls (lsGo 25 (.int .i64 (.ofNat 24))) (cls 25) = true := by decide +kernel
theorem ls_25_25 : alls (lsGo 25 (.int .i64 (.ofNat 25))) (cls 25) = true := by decide +kernel
theorem ls_25_26 : alls (lsGo 25 (.ge (.ofNat 26))) (cls 25) = true := by decide +kernel
theorem ls_26_0 : alls (lsGo 26 (.le 0)) (cls 26) = true := by decide +kernel
theorem ls_26_1 : alls (lsGo 26 (.int .i64 (.ofNat 1))) (cls 26) = true := by decide +kernel
theorem ls_26_2 : alls (lsGo 26 (.int .i64 (.ofNat 2))) (cls 26) = true := by decide +kernel
theorem ls_26_3 : alls (lsGo 26 (.int .i64 (.ofNat 3))) (cls 26) = true := by decide +kernel
theorem ls_26_4 : alls (lsGo 26 (.int .i64 (.ofNat 4))) (cls 26) = true := by decide +kernel
theorem ls_26_5 : alls (lsGo 26 (.int .i64 (.ofNat 5))) (cls 26) = true := by decide +kernel
theorem ls_26_6 : alls (lsGo 26 (.int .i64 (.ofNat 6))) (cls 26) = true := by decide +kernel
end Go.Proofs.Ytlmabmpdbcgabaa.Fin
