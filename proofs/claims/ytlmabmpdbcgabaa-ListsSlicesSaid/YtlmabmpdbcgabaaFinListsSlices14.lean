/- Cases of the law ListsSlices, each run in the kernel. -/
import Derived.Test.YtlmabmpdbcgabaaFinListsSlicesB
namespace Go.Proofs.Ytlmabmpdbcgabaa.Fin
open Go.Proofs.Ytlmabmpdbcgabaa.Fast Go.RowKit
set_option linter.unusedVariables false
set_option maxRecDepth 1000000
theorem ls_24_12 : alls (lsGo 24 (.int .i64 (.ofNat 12))) (cls 24) = true := by decide +kernel
theorem ls_24_13 : alls (lsGo 24 (.int .i64 (.ofNat 13))) (cls 24) = true := by decide +kernel
theorem ls_24_14 : alls (lsGo 24 (.int .i64 (.ofNat 14))) (cls 24) = true := by decide +kernel
theorem ls_24_15 : alls (lsGo 24 (.int .i64 (.ofNat 15))) (cls 24) = true := by decide +kernel
theorem ls_24_16 : alls (lsGo 24 (.int .i64 (.ofNat 16))) (cls 24) = true := by decide +kernel
theorem ls_24_17 : alls (lsGo 24 (.int .i64 (.ofNat 17))) (cls 24) = true := by decide +kernel
theorem ls_24_18 : alls (lsGo 24 (.int .i64 (.ofNat 18))) (cls 24) = true := by decide +kernel
theorem ls_24_19 : alls (lsGo 24 (.int .i64 (.ofNat 19))) (cls 24) = true := by decide +kernel
theorem ls_24_20 : alls (lsGo 24 (.int .i64 (.ofNat 20))) (cls 24) = true := by decide +kernel
theorem ls_24_21 : alls (lsGo 24 (.int .i64 (.ofNat 21))) (cls 24) = true := by decide +kernel
theorem ls_24_22 : alls (lsGo 24 (.int .i64 (.ofNat 22))) (cls 24) = true := by decide +kernel
theorem ls_24_23 : alls (lsGo 24 (.int .i64 (.ofNat 23))) (cls 24) = true := by decide +kernel
theorem ls_24_24 : alls (lsGo 24 (.int .i64 (.ofNat 24))) (cls 24) = true := by decide +kernel
end Go.Proofs.Ytlmabmpdbcgabaa.Fin
