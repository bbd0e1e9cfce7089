/- Cases of the law ListsSlices, each run in the kernel. -/
import Derived.Test.YtlmabmpdbcgabaaFinListsSlicesB
namespace Go.Proofs.Ytlmabmpdbcgabaa.Fin
open Go.Proofs.Ytlmabmpdbcgabaa.Fast Go.RowKit
set_option linter.unusedVariables false
set_option maxRecDepth 1000000
theorem ls_17_2 : alls (lsGo 17 (.int .i64 (.ofNat 2))) (cls 17) = true := by decide +kernel
theorem ls_17_3 : alls (lsGo 17 (.int .i64 (.ofNat 3))) (cls 17) = true := by decide +kernel
theorem ls_17_4 : alls (lsGo 17 (.int .i64 (.ofNat 4))) (cls 17) = true := by decide +kernel
theorem ls_17_5 : alls (lsGo 17 (.int .i64 (.ofNat 5))) (cls 17) = true := by decide +kernel
theorem ls_17_6 : alls (lsGo 17 (.int .i64 (.ofNat 6))) (cls 17) = true := by decide +kernel
theorem ls_17_7 : alls (lsGo 17 (.int .i64 (.ofNat 7))) (cls 17) = true := by decide +kernel
theorem ls_17_8 : alls (lsGo 17 (.int .i64 (.ofNat 8))) (cls 17) = true := by decide +kernel
theorem ls_17_9 : alls (lsGo 17 (.int .i64 (.ofNat 9))) (cls 17) = true := by decide +kernel
theorem ls_17_10 : alls (lsGo 17 (.int .i64 (.ofNat 10))) (cls 17) = true := by decide +kernel
theorem ls_17_11 : alls (lsGo 17 (.int .i64 (.ofNat 11))) (cls 17) = true := by decide +kernel
theorem ls_17_12 : alls (lsGo 17 (.int .i64 (.ofNat 12))) (cls 17) = true := by decide +kernel
theorem ls_17_13 : alls (lsGo 17 (.int .i64 (.ofNat 13))) (cls 17) = true := by decide +kernel
theorem ls_17_14 : alls (lsGo 17 (.int .i64 (.ofNat 14))) (cls 17) = true := by decide +kernel
theorem ls_17_15 : alls (lsGo 17 (.int .i64 (.ofNat 15))) (cls 17) = true := by decide +kernel
theorem ls_17_16 : alls (lsGo 17 (.int .i64 (.ofNat 16))) (cls 17) = true := by decide +kernel
theorem ls_17_17 : alls (lsGo 17 (.int .i64 (.ofNat 17))) (cls 17) = true := by decide +kernel
theorem ls_17_18 : alls (lsGo 17 (.ge (.ofNat 18))) (cls 17) = true := by decide +kernel
theorem ls_18_0 : alls (lsGo 18 (.le 0)) (cls 18) = true := by decide +kernel
theorem ls_18_1 : alls (lsGo 18 (.int .i64 (.ofNat 1))) (cls 18) = true := by decide +kernel
theorem ls_18_2 : alls (lsGo 18 (.int .i64 (.ofNat 2))) (cls 18) = true := by decide +kernel
theorem ls_18_3 : alls (lsGo 18 (.int .i64 (.ofNat 3))) (cls 18) = true := by decide +kernel
theorem ls_18_4 : alls (lsGo 18 (.int .i64 (.ofNat 4))) (cls 18) = true := by decide +kernel
end Go.Proofs.Ytlmabmpdbcgabaa.Fin
