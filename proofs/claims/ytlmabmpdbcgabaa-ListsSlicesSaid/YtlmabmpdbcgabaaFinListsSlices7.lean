/- Cases of the law ListsSlices, each run in the kernel. -/
import Derived.Test.YtlmabmpdbcgabaaFinListsSlicesB
namespace Go.Proofs.Ytlmabmpdbcgabaa.Fin
open Go.Proofs.Ytlmabmpdbcgabaa.Fast Go.RowKit
set_option linter.unusedVariables false
set_option maxRecDepth 1000000
theorem ls_20_2 : alls (lsGo 20 (.int .i64 (.ofNat 2))) (cls 20) = true := by decide +kernel
theorem ls_20_3 : alls (lsGo 20 (.int .i64 (.ofNat 3))) (cls 20) = true := by decide +kernel
theorem ls_20_4 : alls (lsGo 20 (.int .i64 (.ofNat 4))) (cls 20) = true := by decide +kernel
theorem ls_20_5 : alls (lsGo 20 (.int .i64 (.ofNat 5))) (cls 20) = true := by decide +kernel
theorem ls_20_6 : alls (lsGo 20 (.int .i64 (.ofNat 6))) (cls 20) = true := by decide +kernel
theorem ls_20_7 : alls (lsGo 20 (.int .i64 (.ofNat 7))) (cls 20) = true := by decide +kernel
theorem ls_20_8 : alls (lsGo 20 (.int .i64 (.ofNat 8))) (cls 20) = true := by decide +kernel
theorem ls_20_9 : alls (lsGo 20 (.int .i64 (.ofNat 9))) (cls 20) = true := by decide +kernel
theorem ls_20_10 : alls (lsGo 20 (.int .i64 (.ofNat 10))) (cls 20) = true := by decide +kernel
theorem ls_20_11 : alls (lsGo 20 (.int .i64 (.ofNat 11))) (cls 20) = true := by decide +kernel
theorem ls_20_12 : alls (lsGo 20 (.int .i64 (.ofNat 12))) (cls 20) = true := by decide +kernel
theorem ls_20_13 : alls (lsGo 20 (.int .i64 (.ofNat 13))) (cls 20) = true := by decide +kernel
theorem ls_20_14 : alls (lsGo 20 (.int .i64 (.ofNat 14))) (cls 20) = true := by decide +kernel
theorem ls_20_15 : alls (lsGo 20 (.int .i64 (.ofNat 15))) (cls 20) = true := by decide +kernel
theorem ls_20_16 : alls (lsGo 20 (.int .i64 (.ofNat 16))) (cls 20) = true := by decide +kernel
theorem ls_20_17 : alls (lsGo 20 (.int .i64 (.ofNat 17))) (cls 20) = true := by decide +kernel
theorem ls_20_18 : alls (lsGo 20 (.int .i64 (.ofNat 18))) (cls 20) = true := by decide +kernel
end Go.Proofs.Ytlmabmpdbcgabaa.Fin
