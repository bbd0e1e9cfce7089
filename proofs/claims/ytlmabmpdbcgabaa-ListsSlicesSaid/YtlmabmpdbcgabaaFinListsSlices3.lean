/- Cases of the law ListsSlices, each run in the kernel. -/
import Derived.Test.YtlmabmpdbcgabaaFinListsSlicesB
namespace Go.Proofs.Ytlmabmpdbcgabaa.Fin
open Go.Proofs.Ytlmabmpdbcgabaa.Fast Go.RowKit
set_option linter.unusedVariables false
set_option maxRecDepth 1000000
theorem ls_15_12 : alls (lsGo 15 (.int .i64 (.ofNat 12))) (cls 15) = true := by decide +kernel
theorem ls_15_13 : alls (lsGo 15 (.int .i64 (.ofNat 13))) (cls 15) = true := by decide +kernel
theorem ls_15_14 : alls (lsGo 15 (.int .i64 (.ofNat 14))) (cls 15) = true := by decide +kernel
theorem ls_15_15 : alls (lsGo 15 (.int .i64 (.ofNat 15))) (cls 15) = true := by decide +kernel
theorem ls_15_16 : alls (lsGo 15 (.ge (.ofNat 16))) (cls 15) = true := by decide +kernel
theorem ls_16_0 : alls (lsGo 16 (.le 0)) (cls 16) = true := by decide +kernel
theorem ls_16_1 : alls (lsGo 16 (.int .i64 (.ofNat 1))) (cls 16) = true := by decide +kernel
theorem ls_16_2 : alls (lsGo 16 (.int .i64 (.ofNat 2))) (cls 16) = true := by decide +kernel
theorem ls_16_3 : alls (lsGo 16 (.int .i64 (.ofNat 3))) (cls 16) = true := by decide +kernel
theorem ls_16_4 : alls (lsGo 16 (.int .i64 (.ofNat 4))) (cls 16) = true := by decide +kernel
theorem ls_16_5 : alls (lsGo 16 (.int .i64 (.ofNat 5))) (cls 16) = true := by decide +kernel
theorem ls_16_6 : alls (lsGo 16 (.int .i64 (.ofNat 6))) (cls 16) = true := by decide +kernel
theorem ls_16_7 : alls (lsGo 16 (.int .i64 (.ofNat 7))) (cls 16) = true := by decide +kernel
theorem ls_16_8 : alls (lsGo 16 (.int .i64 (.ofNat 8))) (cls 16) = true := by decide +kernel
theorem ls_16_9 : alls (lsGo 16 (.int .i64 (.ofNat 9))) (cls 16) = true := by decide +kernel
theorem ls_16_10 : alls (lsGo 16 (.int .i64 (.ofNat 10))) (cls 16) = true := by decide +kernel
theorem ls_16_11 : alls (lsGo 16 (.int .i64 (.ofNat 11))) (cls 16) = true := by decide +kernel
theorem ls_16_12 : alls (lsGo 16 (.int .i64 (.ofNat 12))) (cls 16) = true := by decide +kernel
theorem ls_16_13 : alls (lsGo 16 (.int .i64 (.ofNat 13))) (cls 16) = true := by decide +kernel
theorem ls_16_14 : alls (lsGo 16 (.int .i64 (.ofNat 14))) (cls 16) = true := by decide +kernel
theorem ls_16_15 : alls (lsGo 16 (.int .i64 (.ofNat 15))) (cls 16) = true := by decide +kernel
theorem ls_16_16 : alls (lsGo 16 (.int .i64 (.ofNat 16))) (cls 16) = true := by decide +kernel
theorem ls_16_17 : alls (lsGo 16 (.ge (.ofNat 17))) (cls 16) = true := by decide +kernel
theorem ls_17_0 : alls (lsGo 17 (.le 0)) (cls 17) = true := by decide +kernel
theorem ls_17_1 : alls (lsGo 17 (.int .i64 (.ofNat 1))) (cls 17) = true := by decide +kernel
end Go.Proofs.Ytlmabmpdbcgabaa.Fin
