/- Cases of the law ListsSlices, each run in the kernel. -/
import Derived.Test.YtlmabmpdbcgabaaFinListsSlicesB
namespace Go.Proofs.Ytlmabmpdbcgabaa.Fin
open Go.Proofs.Ytlmabmpdbcgabaa.Fast Go.RowKit
set_option linter.unusedVariables false
set_option maxRecDepth 1000000
theorem ls_29_11 : alls (lsGo 29 (.int .i64 (.ofNat 11))) (cls 29) = true := by decide +kernel
theorem ls_29_12 : alls (lsGo 29 (.int .i64 (.ofNat 12))) (cls 29) = true := by decide +kernel
theorem ls_29_13 : alls (lsGo 29 (.int .i64 (.ofNat 13))) (cls 29) = true := by decide +kernel
theorem ls_29_14 : alls (lsGo 29 (.int .i64 (.ofNat 14))) (cls 29) = true := by decide +kernel
theorem ls_29_15 : alls (lsGo 29 (.int .i64 (.ofNat 15))) (cls 29) = true := by decide +kernel
theorem ls_29_16 : alls (lsGo 29 (.int .i64 (.ofNat 16))) (cls 29) = true := by decide +kernel
theorem ls_29_17 : alls (lsGo 29 (.int .i64 (.ofNat 17))) (cls 29) = true := by decide +kernel
theorem ls_29_18 : alls (lsGo 29 (.int .i64 (.ofNat 18))) (cls 29) = true := by decide +kernel
theorem ls_29_19 : alls (lsGo 29 (.int .i64 (.ofNat 19))) (cls 29) = true := by decide +kernel
end Go.Proofs.Ytlmabmpdbcgabaa.Fin
