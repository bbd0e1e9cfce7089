/- Cases of the law ListsSlices, each run in the kernel. -/
import Derived.Test.YtlmabmpdbcgabaaFinListsSlicesB
namespace Go.Proofs.Ytlmabmpdbcgabaa.Fin
open Go.Proofs.Ytlmabmpdbcgabaa.Fast Go.RowKit
set_option linter.unusedVariables false
set_option maxRecDepth 1000000
theorem ls_19_5 : alls (lsGo 19 (.int .i64 (.ofNat 5))) (cls 19) = true := by decide +kernel
theorem ls_19_6 : alls (lsGo 19 (.int .i64 (.ofNat 6))) (cls 19) = true := by decide +kernel
theorem ls_19_7 : alls (lsGo 19 (.int .i64 (.ofNat 7))) (cls 19) = true := by decide +kernel
theorem ls_19_8 : alls (lsGo 19 (.int .i64 (.ofNat 8))) (cls 19) = true := by decide +kernel
theorem ls_19_9 : alls (lsGo 19 (.int .i64 (.ofNat 9))) (cls 19) = true := by decide +kernel
theorem ls_19_10 : alls (lsGo 19 (.int .i64 (.ofNat 10))) (cls 19) = true := by decide +kernel
theorem ls_19_11 : alls (lsGo 19 (.int .i64 (.ofNat 11))) (cls 19) = true := by decide +kernel
theorem ls_19_12 : alls (lsGo 19 (.int .i64 (.ofNat 12))) (cls 19) = true := by decide +kernel
theorem ls_19_13 : alls (lsGo 19 (.int .i64 (.ofNat 13))) (cls 19) = true := by decide +kernel
theorem ls_19_14 : alls (lsGo 19 (.int .i64 (.ofNat 14))) (cls 19) = true := by decide +kernel
theorem ls_19_15 : alls (lsGo 19 (.int .i64 (.ofNat 15))) (cls 19) = true := by decide +kernel
theorem ls_19_16 : alls (lsGo 19 (.int .i64 (.ofNat 16))) (cls 19) = true := by decide +kernel
theorem ls_19_17 : alls (lsGo 19 (.int .i64 (.ofNat 17))) (cls 19) = true := by decide +kernel
theorem ls_19_18 : alls (lsGo 19 (.int .i64 (.ofNat 18))) (cls 19) = true := by decide +kernel
theorem ls_19_19 : alls (lsGo 19 (.int .i64 (.ofNat 19))) (cls 19) = true := by decide +kernel
theorem ls_19_20 : alls (lsGo 19 (.ge (.ofNat 20))) (cls 19) = true := by decide +kernel
theorem ls_20_0 : alls (lsGo 20 (.le 0)) (cls 20) = true := by decide +kernel
theorem ls_20_1 : alls (lsGo 20 (.int .i64 (.ofNat 1))) (cls 20) = true := by decide +kernel
end Go.Proofs.Ytlmabmpdbcgabaa.Fin
