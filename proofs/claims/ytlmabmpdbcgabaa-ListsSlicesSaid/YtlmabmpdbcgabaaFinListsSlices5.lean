/- Cases of the law ListsSlices, each run in the kernel. -/
import Derived.Test.YtlmabmpdbcgabaaFinListsSlicesB
namespace Go.Proofs.Ytlmabmpdbcgabaa.Fin
open Go.Proofs.Ytlmabmpdbcgabaa.Fast Go.RowKit
set_option linter.unusedVariables false
set_option maxRecDepth 1000000
theorem ls_18_5 : alls (lsGo 18 (.int .i64 (.ofNat 5))) (cls 18) = true := by decide +kernel
theorem ls_18_6 : alls (lsGo 18 (.int .i64 (.ofNat 6))) (cls 18) = true := by decide +kernel
theorem ls_18_7 : alls (lsGo 18 (.int .i64 (.ofNat 7))) (cls 18) = true := by decide +kernel
theorem ls_18_8 : alls (lsGo 18 (.int .i64 (.ofNat 8))) (cls 18) = true := by decide +kernel
theorem ls_18_9 : alls (lsGo 18 (.int .i64 (.ofNat 9))) (cls 18) = true := by decide +kernel
theorem ls_18_10 : alls (lsGo 18 (.int .i64 (.ofNat 10))) (cls 18) = true := by decide +kernel
theorem ls_18_11 : alls (lsGo 18 (.int .i64 (.ofNat 11))) (cls 18) = true := by decide +kernel
theorem ls_18_12 : alls (lsGo 18 (.int .i64 (.ofNat 12))) (cls 18) = true := by decide +kernel
theorem ls_18_13 : alls (lsGo 18 (.int .i64 (.ofNat 13))) (cls 18) = true := by decide +kernel
theorem ls_18_14 : alls (lsGo 18 (.int .i64 (.ofNat 14))) (cls 18) = true := by decide +kernel
theorem ls_18_15 : alls (lsGo 18 (.int .i64 (.ofNat 15))) (cls 18) = true := by decide +kernel
theorem ls_18_16 : alls (lsGo 18 (.int .i64 (.ofNat 16))) (cls 18) = true := by decide +kernel
theorem ls_18_17 : alls (lsGo 18 (.int .i64 (.ofNat 17))) (cls 18) = true := by decide +kernel
theorem ls_18_18 : alls (lsGo 18 (.int .i64 (.ofNat 18))) (cls 18) = true := by decide +kernel
theorem ls_18_19 : alls (lsGo 18 (.ge (.ofNat 19))) (cls 18) = true := by decide +kernel
theorem ls_19_0 : alls (lsGo 19 (.le 0)) (cls 19) = true := by decide +kernel
theorem ls_19_1 : alls (lsGo 19 (.int .i64 (.ofNat 1))) (cls 19) = true := by decide +kernel
theorem ls_19_2 : alls (lsGo 19 (.int .i64 (.ofNat 2))) (cls 19) = true := by decide +kernel
theorem ls_19_3 : alls (lsGo 19 (.int .i64 (.ofNat 3))) (cls 19) = true := by decide +kernel
theorem ls_19_4 : alls (lsGo 19 (.int .i64 (.ofNat 4))) (cls 19) = true := by decide +kernel
end Go.Proofs.Ytlmabmpdbcgabaa.Fin
