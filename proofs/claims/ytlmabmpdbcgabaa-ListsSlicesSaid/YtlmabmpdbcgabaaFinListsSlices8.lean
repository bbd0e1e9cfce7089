/- Cases of the law ListsSlices, each run in the kernel. -/
import Derived.Test.YtlmabmpdbcgabaaFinListsSlicesB
namespace Go.Proofs.Ytlmabmpdbcgabaa.Fin
open Go.Proofs.Ytlmabmpdbcgabaa.Fast Go.RowKit
set_option linter.unusedVariables false
set_option maxRecDepth 1000000
theorem ls_20_19 : alls (lsGo 20 (.int .i64 (.ofNat 19))) (cls 20) = true := by decide +kernel
theorem ls_20_20 : alls (lsGo 20 (.int .i64 (.ofNat 20))) (cls 20) = true := by decide +kernel
theorem ls_20_21 : alls (lsGo 20 (.ge (.ofNat 21))) (cls 20) = true := by decide +kernel
theorem ls_21_0 : alls (lsGo 21 (.le 0)) (cls 21) = true := by decide +kernel
theorem ls_21_1 : alls (lsGo 21 (.int .i64 (.ofNat 1))) (cls 21) = true := by decide +kernel
theorem ls_21_2 : alls (lsGo 21 (.int .i64 (.ofNat 2))) (cls 21) = true := by decide +kernel
theorem ls_21_3 : alls (lsGo 21 (.int .i64 (.ofNat 3))) (cls 21) = true := by decide +kernel
theorem ls_21_4 : alls (lsGo 21 (.int .i64 (.ofNat 4))) (cls 21) = true := by decide +kernel
theorem ls_21_5 : alls (lsGo 21 (.int .i64 (.ofNat 5))) (cls 21) = true := by decide +kernel
theorem ls_21_6 : alls (lsGo 21 (.int .i64 (.ofNat 6))) (cls 21) = true := by decide +kernel
theorem ls_21_7 : alls (lsGo 21 (.int .i64 (.ofNat 7))) (cls 21) = true := by decide +kernel
theorem ls_21_8 : alls (lsGo 21 (.int .i64 (.ofNat 8))) (cls 21) = true := by decide +kernel
theorem ls_21_9 : alls (lsGo 21 (.int .i64 (.ofNat 9))) (cls 21) = true := by decide +kernel
theorem ls_21_10 : alls (lsGo 21 (.int .i64 (.ofNat 10))) (cls 21) = true := by decide +kernel
theorem ls_21_11 : alls (lsGo 21 (.int .i64 (.ofNat 11))) (cls 21) = true := by decide +kernel
theorem ls_21_12 : alls (lsGo 21 (.int .i64 (.ofNat 12))) (cls 21) = true := by decide +kernel
end Go.Proofs.Ytlmabmpdbcgabaa.Fin
