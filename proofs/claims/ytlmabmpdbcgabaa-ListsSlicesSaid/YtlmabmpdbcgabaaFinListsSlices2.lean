/- Cases of the law ListsSlices, each run in the kernel. -/
import Derived.Test.YtlmabmpdbcgabaaFinListsSlicesB
namespace Go.Proofs.Ytlmabmpdbcgabaa.Fin
open Go.Proofs.Ytlmabmpdbcgabaa.Fast Go.RowKit
set_option linter.unusedVariables false
set_option maxRecDepth 1000000
theorem ls_13_14 : alls (lsGo 13 (.ge (.ofNat 14))) (cls 13) = true := by decide +kernel
theorem ls_14_0 : alls (lsGo 14 (.le 0)) (cls 14) = true := by decide +kernel
theorem ls_14_1 : alls (lsGo 14 (.int .i64 (.ofNat 1))) (cls 14) = true := by decide +kernel
theorem ls_14_2 : alls (lsGo 14 (.int .i64 (.ofNat 2))) (cls 14) = true := by decide +kernel
theorem ls_14_3 : alls (lsGo 14 (.int .i64 (.ofNat 3))) (cls 14) = true := by decide +kernel
theorem ls_14_4 : alls (lsGo 14 (.int .i64 (.ofNat 4))) (cls 14) = true := by decide +kernel
theorem ls_14_5 : alls (lsGo 14 (.int .i64 (.ofNat 5))) (cls 14) = true := by decide +kernel
theorem ls_14_6 : alls (lsGo 14 (.int .i64 (.ofNat 6))) (cls 14) = true := by decide +kernel
theorem ls_14_7 : alls (lsGo 14 (.int .i64 (.ofNat 7))) (cls 14) = true := by decide +kernel
theorem ls_14_8 : alls (lsGo 14 (.int .i64 (.ofNat 8))) (cls 14) = true := by decide +kernel
theorem ls_14_9 : alls (lsGo 14 (.int .i64 (.ofNat 9))) (cls 14) = true := by decide +kernel
theorem ls_14_10 : alls (lsGo 14 (.int .i64 (.ofNat 10))) (cls 14) = true := by decide +kernel
theorem ls_14_11 : alls (lsGo 14 (.int .i64 (.ofNat 11))) (cls 14) = true := by decide +kernel
theorem ls_14_12 : alls (lsGo 14 (.int .i64 (.ofNat 12))) (cls 14) = true := by decide +kernel
theorem ls_14_13 : alls (lsGo 14 (.int .i64 (.ofNat 13))) (cls 14) = true := by decide +kernel
theorem ls_14_14 : alls (lsGo 14 (.int .i64 (.ofNat 14))) (cls 14) = true := by decide +kernel
theorem ls_14_15 : alls (lsGo 14 (.ge (.ofNat 15))) (cls 14) = true := by decide +kernel
theorem ls_15_0 : alls (lsGo 15 (.le 0)) (cls 15) = true := by decide +kernel
theorem ls_15_1 : alls (lsGo 15 (.int .i64 (.ofNat 1))) (cls 15) = true := by decide +kernel
theorem ls_15_2 : alls (lsGo 15 (.int .i64 (.ofNat 2))) (cls 15) = true := by decide +kernel
theorem ls_15_3 : alls (lsGo 15 (.int .i64 (.ofNat 3))) (cls 15) = true := by decide +kernel
theorem ls_15_4 : alls (lsGo 15 (.int .i64 (.ofNat 4))) (cls 15) = true := by decide +kernel
theorem ls_15_5 : alls (lsGo 15 (.int .i64 (.ofNat 5))) (cls 15) = true := by decide +kernel
theorem ls_15_6 : alls (lsGo 15 (.int .i64 (.ofNat 6))) (cls 15) = true := by decide +kernel
theorem ls_15_7 : alls (lsGo 15 (.int .i64 (.ofNat 7))) (cls 15) = true := by decide +kernel
theorem ls_15_8 : alls (lsGo 15 (.int .i64 (.ofNat 8))) (cls 15) = true := by decide +kernel
theorem ls_15_9 : alls (lsGo 15 (.int .i64 (.ofNat 9))) (cls 15) = true := by decide +kernel
theorem ls_15_10 : alls (lsGo 15 (.int .i64 (.ofNat 10))) (cls 15) = true := by decide +kernel
theorem ls_15_11 : alls (lsGo 15 (.int .i64 (.ofNat 11))) (cls 15) = true := by decide +kernel
end Go.Proofs.Ytlmabmpdbcgabaa.Fin
