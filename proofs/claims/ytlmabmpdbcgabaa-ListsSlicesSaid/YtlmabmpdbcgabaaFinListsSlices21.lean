/- Cases of the law ListsSlices, each run in the kernel. -/
import Derived.Test.YtlmabmpdbcgabaaFinListsSlicesB
namespace Go.Proofs.Ytlmabmpdbcgabaa.Fin
open Go.Proofs.Ytlmabmpdbcgabaa.Fast Go.RowKit
set_option linter.unusedVariables false
set_option maxRecDepth 1000000
theorem ls_27_11 : alls (lsGo 27 (.int .i64 (.ofNat 11))) (cls 27) = true := by decide +kernel
theorem ls_27_12 : alls (lsGo 27 (.int .i64 (.ofNat 12))) (cls 27) = true := by decide +kernel
theorem ls_27_13 : alls (lsGo 27 (.int .i64 (.ofNat 13))) (cls 27) = true := by decide +kernel
theorem ls_27_14 : alls (lsGo 27 (.int .i64 (.ofNat 14))) (cls 27) = true := by decide +kernel
theorem ls_27_15 : alls (lsGo 27 (.int .i64 (.ofNat 15))) (cls 27) = true := by decide +kernel
theorem ls_27_16 : alls (lsGo 27 (.int .i64 (.ofNat 16))) (cls 27) = true := by decide +kernel
theorem ls_27_17 : alls (lsGo 27 (.int .i64 (.ofNat 17))) (cls 27) = true := by decide +kernel
theorem ls_27_18 : alls (lsGo 27 (.int .i64 (.ofNat 18))) (cls 27) = true := by decide +kernel
theorem ls_27_19 : alls (lsGo 27 (.int .i64 (.ofNat 19))) (cls 27) = true := by decide +kernel
theorem ls_27_20 : alls (lsGo 27 (.int .i64 (.ofNat 20))) (cls 27) = true := by decide +kernel
end Go.Proofs.Ytlmabmpdbcgabaa.Fin
