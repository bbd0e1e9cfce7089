/- Cases of the law ListsSlices, each run in the kernel. -/
import Derived.Test.YtlmabmpdbcgabaaFinListsSlicesB
namespace Go.Proofs.Ytlmabmpdbcgabaa.Fin
open Go.Proofs.Ytlmabmpdbcgabaa.Fast Go.RowKit
set_option linter.unusedVariables false
set_option maxRecDepth 1000000
theorem ls_26_18 : alls (lsGo 26 (.int .i64 (.ofNat 18))) (cls 26) = true := by decide +kernel
theorem ls_26_19 : alls (lsGo 26 (.int .i64 (.ofNat 19))) (cls 26) = true := by decide +kernel
theorem ls_26_20 : alls (lsGo 26 (.int .i64 (.ofNat 20))) (cls 26) = true := by decide +kernel
theorem ls_26_21 : alls (lsGo 26 (.int .i64 (.ofNat 21))) (cls 26) = true := by decide +kernel
theorem ls_26_22 : alls (lsGo 26 (.int .i64 (.ofNat 22))) (cls 26) = true := by decide +kernel
theorem ls_26_23 : alls (lsGo 26 (.int .i64 (.ofNat 23))) (cls 26) = true := by decide +kernel
theorem ls_26_24 : alls (lsGo 26 (.int .i64 (.ofNat 24))) (cls 26) = true := by decide +kernel
theorem ls_26_25 : alls (lsGo 26 (.int .i64 (.ofNat 25))) (cls 26) = true := by decide +kernel
theorem ls_26_26 : alls (lsGo 26 (.int .i64 (.ofNat 26))) (cls 26) = true := by decide +kernel
theorem ls_26_27 : alls (lsGo 26 (.ge (.ofNat 27))) (cls 26) = true := by decide +kernel
theorem ls_27_0 : alls (lsGo 27 (.le 0)) (cls 27) = true := by decide +kernel
end Go.Proofs.Ytlmabmpdbcgabaa.Fin
