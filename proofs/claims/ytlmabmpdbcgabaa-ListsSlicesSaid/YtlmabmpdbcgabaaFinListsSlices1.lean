/- Cases of the law ListsSlices, each run in the kernel. -/
import Derived.Test.YtlmabmpdbcgabaaFinListsSlicesB
namespace Go.Proofs.Ytlmabmpdbcgabaa.Fin
open Go.Proofs.Ytlmabmpdbcgabaa.Fast Go.RowKit
set_option linter.unusedVariables false
set_option maxRecDepth 1000000
theorem ls_11_4 : alls (lsGo 11 (.int .i64 (.ofNat 4))) (cls 11) = true := by decide +kernel
theorem ls_11_5 : alls (lsGo 11 (.int .i64 (.ofNat 5))) (cls 11) = true := by decide +kernel
theorem ls_11_6 : alls (lsGo 11 (.int .i64 (.ofNat 6))) (cls 11) = true := by decide +kernel
theorem ls_11_7 : alls (lsGo 11 (.int .i64 (.ofNat 7))) (cls 11) = true := by decide +kernel
theorem ls_11_8 : alls (lsGo 11 (.int .i64 (.ofNat 8))) (cls 11) = true := by decide +kernel
theorem ls_11_9 : alls (lsGo 11 (.int .i64 (.ofNat 9))) (cls 11) = true := by decide +kernel
theorem ls_11_10 : alls (lsGo 11 (.int .i64 (.ofNat 10))) (cls 11) = true := by decide +kernel
theorem ls_11_11 : alls (lsGo 11 (.int .i64 (.ofNat 11))) (cls 11) = true := by decide +kernel
theorem ls_11_12 : alls (lsGo 11 (.ge (.ofNat 12))) (cls 11) = true := by decide +kernel
theorem ls_12_0 : alls (lsGo 12 (.le 0)) (cls 12) = true := by decide +kernel
theorem ls_12_1 : alls (lsGo 12 (.int .i64 (.ofNat 1))) (cls 12) = true := by decide +kernel
theorem ls_12_2 : alls (lsGo 12 (.int .i64 (.ofNat 2))) (cls 12) = true := by decide +kernel
theorem ls_12_3 : alls (lsGo 12 (.int .i64 (.ofNat 3))) (cls 12) = true := by decide +kernel
theorem ls_12_4 : alls (lsGo 12 (.int .i64 (.ofNat 4))) (cls 12) = true := by decide +kernel
theorem ls_12_5 : alls (lsGo 12 (.int .i64 (.ofNat 5))) (cls 12) = true := by decide +kernel
theorem ls_12_6 : alls (lsGo 12 (.int .i64 (.ofNat 6))) (cls 12) = true := by decide +kernel
theorem ls_12_7 : alls (lsGo 12 (.int .i64 (.ofNat 7))) (cls 12) = true := by decide +kernel
theorem ls_12_8 : alls (lsGo 12 (.int .i64 (.ofNat 8))) (cls 12) = true := by decide +kernel
theorem ls_12_9 : alls (lsGo 12 (.int .i64 (.ofNat 9))) (cls 12) = true := by decide +kernel
theorem ls_12_10 : alls (lsGo 12 (.int .i64 (.ofNat 10))) (cls 12) = true := by decide +kernel
theorem ls_12_11 : alls (lsGo 12 (.int .i64 (.ofNat 11))) (cls 12) = true := by decide +kernel
theorem ls_12_12 : alls (lsGo 12 (.int .i64 (.ofNat 12))) (cls 12) = true := by decide +kernel
theorem ls_12_13 : alls (lsGo 12 (.ge (.ofNat 13))) (cls 12) = true := by decide +kernel
theorem ls_13_0 : alls (lsGo 13 (.le 0)) (cls 13) = true := by decide +kernel
theorem ls_13_1 : alls (lsGo 13 (.int .i64 (.ofNat 1))) (cls 13) = true := by decide +kernel
theorem ls_13_2 : alls (lsGo 13 (.int .i64 (.ofNat 2))) (cls 13) = true := by decide +kernel
theorem ls_13_3 : alls (lsGo 13 (.int .i64 (.ofNat 3))) (cls 13) = true := by decide +kernel
theorem ls_13_4 : alls (lsGo 13 (.int .i64 (.ofNat 4))) (cls 13) = true := by decide +kernel
theorem ls_13_5 : alls (lsGo 13 (.int .i64 (.ofNat 5))) (cls 13) = true := by decide +kernel
theorem ls_13_6 : alls (lsGo 13 (.int .i64 (.ofNat 6))) (cls 13) = true := by decide +kernel
theorem ls_13_7 : alls (lsGo 13 (.int .i64 (.ofNat 7))) (cls 13) = true := by decide +kernel
theorem ls_13_8 : alls (lsGo 13 (.int .i64 (.ofNat 8))) (cls 13) = true := by decide +kernel
theorem ls_13_9 : alls (lsGo 13 (.int .i64 (.ofNat 9))) (cls 13) = true := by decide +kernel
theorem ls_13_10 : alls (lsGo 13 (.int .i64 (.ofNat 10))) (cls 13) = true := by decide +kernel
theorem ls_13_11 : alls (lsGo 13 (.int .i64 (.ofNat 11))) (cls 13) = true := by decide +kernel
theorem ls_13_12 : alls (lsGo 13 (.int .i64 (.ofNat 12))) (cls 13) = true := by decide +kernel
theorem ls_13_13 : alls (lsGo 13 (.int .i64 (.ofNat 13))) (cls 13) = true := by decide +kernel
end Go.Proofs.Ytlmabmpdbcgabaa.Fin
