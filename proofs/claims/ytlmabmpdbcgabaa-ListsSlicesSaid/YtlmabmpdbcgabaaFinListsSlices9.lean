/- Cases of the law ListsSlices, each run in the kernel. -/
import Derived.Test.YtlmabmpdbcgabaaFinListsSlicesB
namespace Go.Proofs.Ytlmabmpdbcgabaa.Fin
open Go.Proofs.Ytlmabmpdbcgabaa.Fast Go.RowKit
set_option linter.unusedVariables false
set_option maxRecDepth 1000000
theorem ls_21_13 : alls (lsGo 21 (.int .i64 (.ofNat 13))) (cls 21) = true := by decide +kernel
theorem ls_21_14 : alls (lsGo 21 (.int .i64 (.ofNat 14))) (cls 21) = true := by decide +kernel
theorem ls_21_15 : alls (lsGo 21 (.int .i64 (.ofNat 15))) (cls 21) = true := by decide +kernel
theorem ls_21_16 : alls (lsGo 21 (.int .i64 (.ofNat 16))) (cls 21) = true := by decide +kernel
theorem ls_21_17 : alls (lsGo 21 (.int .i64 (.ofNat 17))) (cls 21) = true := by decide +kernel
theorem ls_21_18 : alls (lsGo 21 (.int .i64 (.ofNat 18))) (cls 21) = true := by decide +kernel
theorem ls_21_19 : alls (lsGo 21 (.int .i64 (.ofNat 19))) (cls 21) = true := by decide +kernel
theorem ls_21_20 : alls (lsGo 21 (.int .i64 (.ofNat 20))) (cls 21) = true := by decide +kernel
theorem ls_21_21 : alls (lsGo 21 (.int .i64 (.ofNat 21))) (cls 21) = true := by decide +kernel
theorem ls_21_22 : alls (lsGo 21 (.ge (.ofNat 22))) (cls 21) = true := by decide +kernel
theorem ls_22_0 : alls (lsGo 22 (.le 0)) (cls 22) = true := by decide +kernel
theorem ls_22_1 : alls (lsGo 22 (.int .i64 (.ofNat 1))) (cls 22) = true := by decide +kernel
theorem ls_22_2 : alls (lsGo 22 (.int .i64 (.ofNat 2))) (cls 22) = true := by decide +kernel
theorem ls_22_3 : alls (lsGo 22 (.int .i64 (.ofNat 3))) (cls 22) = true := by decide +kernel
theorem ls_22_4 : alls (lsGo 22 (.int .i64 (.ofNat 4))) (cls 22) = true := by decide +kernel
end Go.Proofs.Ytlmabmpdbcgabaa.Fin
