/- Cases of the law ListsSlices, each run in the kernel. -/
import Derived.Test.YtlmabmpdbcgabaaFinListsSlicesB
namespace Go.Proofs.Ytlmabmpdbcgabaa.Fin
open Go.Proofs.Ytlmabmpdbcgabaa.Fast Go.RowKit
set_option linter.unusedVariables false
set_option maxRecDepth 1000000
theorem ls_0_0 : alls (lsGo 0 (.le 0)) (cls 0) = true := by decide +kernel
theorem ls_0_1 : alls (lsGo 0 (.ge (.ofNat 1))) (cls 0) = true := by decide +kernel
theorem ls_1_0 : alls (lsGo 1 (.le 0)) (cls 1) = true := by decide +kernel
theorem ls_1_1 : alls (lsGo 1 (.int .i64 (.ofNat 1))) (cls 1) = true := by decide +kernel
theorem ls_1_2 : alls (lsGo 1 (.ge (.ofNat 2))) (cls 1) = true := by decide +kernel
theorem ls_2_0 : alls (lsGo 2 (.le 0)) (cls 2) = true := by decide +kernel
theorem ls_2_1 : alls (lsGo 2 (.int .i64 (.ofNat 1))) (cls 2) = true := by decide +kernel
theorem ls_2_2 : alls (lsGo 2 (.int .i64 (.ofNat 2))) (cls 2) = true := by decide +kernel
theorem ls_2_3 : alls (lsGo 2 (.ge (.ofNat 3))) (cls 2) = true := by decide +kernel
theorem ls_3_0 : alls (lsGo 3 (.le 0)) (cls 3) = true := by decide +kernel
theorem ls_3_1 : alls (lsGo 3 (.int .i64 (.ofNat 1))) (cls 3) = true := by decide +kernel
theorem ls_3_2 : alls (lsGo 3 (.int .i64 (.ofNat 2))) (cls 3) = true := by decide +kernel
theorem ls_3_3 : alls (lsGo 3 (.int .i64 (.ofNat 3))) (cls 3) = true := by decide +kernel
theorem ls_3_4 : alls (lsGo 3 (.ge (.ofNat 4))) (cls 3) = true := by decide +kernel
theorem ls_4_0 : alls (lsGo 4 (.le 0)) (cls 4) = true := by decide +kernel
theorem ls_4_1 : alls (lsGo 4 (.int .i64 (.ofNat 1))) (cls 4) = true := by decide +kernel
theorem ls_4_2 : alls (lsGo 4 (.int .i64 (.ofNat 2))) (cls 4) = true := by decide +kernel
theorem ls_4_3 : alls (lsGo 4 (.int .i64 (.ofNat 3))) (cls 4) = true := by decide +kernel
theorem ls_4_4 : alls (lsGo 4 (.int .i64 (.ofNat 4))) (cls 4) = true := by decide +kernel
theorem ls_4_5 : alls (lsGo 4 (.ge (.ofNat 5))) (cls 4) = true := by decide +kernel
theorem ls_5_0 : alls (lsGo 5 (.le 0)) (cls 5) = true := by decide +kernel
theorem ls_5_1 : alls (lsGo 5 (.int .i64 (.ofNat 1))) (cls 5) = true := by decide +kernel
theorem ls_5_2 : alls (lsGo 5 (.int .i64 (.ofNat 2))) (cls 5) = true := by decide +kernel
theorem ls_5_3 : alls (lsGo 5 (.int .i64 (.ofNat 3))) (cls 5) = true := by decide +kernel
theorem ls_5_4 : alls (lsGo 5 (.int .i64 (.ofNat 4))) (cls 5) = true := by decide +kernel
theorem ls_5_5 : alls (lsGo 5 (.int .i64 (.ofNat 5))) (cls 5) = true := by decide +kernel
theorem ls_5_6 : alls (lsGo 5 (.ge (.ofNat 6))) (cls 5) = true := by decide +kernel
theorem ls_6_0 : alls (lsGo 6 (.le 0)) (cls 6) = true := by decide +kernel
theorem ls_6_1 : alls (lsGo 6 (.int .i64 (.ofNat 1))) (cls 6) = true := by decide +kernel
theorem ls_6_2 : alls (lsGo 6 (.int .i64 (.ofNat 2))) (cls 6) = true := by decide +kernel
theorem ls_6_3 : alls (lsGo 6 (.int .i64 (.ofNat 3))) (cls 6) = true := by decide +kernel
theorem ls_6_4 : alls (lsGo 6 (.int .i64 (.ofNat 4))) (cls 6) = true := by decide +kernel
theorem ls_6_5 : alls (lsGo 6 (.int .i64 (.ofNat 5))) (cls 6) = true := by decide +kernel
theorem ls_6_6 : alls (lsGo 6 (.int .i64 (.ofNat 6))) (cls 6) = true := by decide +kernel
theorem ls_6_7 : alls (lsGo 6 (.ge (.ofNat 7))) (cls 6) = true := by decide +kernel
theorem ls_7_0 : alls (lsGo 7 (.le 0)) (cls 7) = true := by decide +kernel
theorem ls_7_1 : alls (lsGo 7 (.int .i64 (.ofNat 1))) (cls 7) = true := by decide +kernel
theorem ls_7_2 : alls (lsGo 7 (.int .i64 (.ofNat 2))) (cls 7) = true := by decide +kernel
theorem ls_7_3 : alls (lsGo 7 (.int .i64 (.ofNat 3))) (cls 7) = true := by decide +kernel
theorem ls_7_4 : alls (lsGo 7 (.int .i64 (.ofNat 4))) (cls 7) = true := by decide +kernel
theorem ls_7_5 : alls (lsGo 7 (.int .i64 (.ofNat 5))) (cls 7) = true := by decide +kernel
theorem ls_7_6 : alls (lsGo 7 (.int .i64 (.ofNat 6))) (cls 7) = true := by decide +kernel
theorem ls_7_7 : alls (lsGo 7 (.int .i64 (.ofNat 7))) (cls 7) = true := by decide +kernel
theorem ls_7_8 : alls (lsGo 7 (.ge (.ofNat 8))) (cls 7) = true := by decide +kernel
theorem ls_8_0 : alls (lsGo 8 (.le 0)) (cls 8) = true := by decide +kernel
theorem ls_8_1 : alls (lsGo 8 (.int .i64 (.ofNat 1))) (cls 8) = true := by decide +kernel
theorem ls_8_2 : alls (lsGo 8 (.int .i64 (.ofNat 2))) (cls 8) = true := by decide +kernel
theorem ls_8_3 : alls (lsGo 8 (.int .i64 (.ofNat 3))) (cls 8) = true := by decide +kernel
theorem ls_8_4 : alls (lsGo 8 (.int .i64 (.ofNat 4))) (cls 8) = true := by decide +kernel
theorem ls_8_5 : alls (lsGo 8 (.int .i64 (.ofNat 5))) (cls 8) = true := by decide +kernel
theorem ls_8_6 : alls (lsGo 8 (.int .i64 (.ofNat 6))) (cls 8) = true := by decide +kernel
theorem ls_8_7 : alls (lsGo 8 (.int .i64 (.ofNat 7))) (cls 8) = true := by decide +kernel
theorem ls_8_8 : alls (lsGo 8 (.int .i64 (.ofNat 8))) (cls 8) = true := by decide +kernel
theorem ls_8_9 : alls (lsGo 8 (.ge (.ofNat 9))) (cls 8) = true := by decide +kernel
theorem ls_9_0 : alls (lsGo 9 (.le 0)) (cls 9) = true := by decide +kernel
theorem ls_9_1 : alls (lsGo 9 (.int .i64 (.ofNat 1))) (cls 9) = true := by decide +kernel
theorem ls_9_2 : alls (lsGo 9 (.int .i64 (.ofNat 2))) (cls 9) = true := by decide +kernel
theorem ls_9_3 : alls (lsGo 9 (.int .i64 (.ofNat 3))) (cls 9) = true := by decide +kernel
theorem ls_9_4 : alls (lsGo 9 (.int .i64 (.ofNat 4))) (cls 9) = true := by decide +kernel
theorem ls_9_5 : alls (lsGo 9 (.int .i64 (.ofNat 5))) (cls 9) = true := by decide +kernel
theorem ls_9_6 : alls (lsGo 9 (.int .i64 (.ofNat 6))) (cls 9) = true := by decide +kernel
theorem ls_9_7 : alls (lsGo 9 (.int .i64 (.ofNat 7))) (cls 9) = true := by decide +kernel
theorem ls_9_8 : alls (lsGo 9 (.int .i64 (.ofNat 8))) (cls 9) = true := by decide +kernel
theorem ls_9_9 : alls (lsGo 9 (.int .i64 (.ofNat 9))) (cls 9) = true := by decide +kernel
theorem ls_9_10 : alls (lsGo 9 (.ge (.ofNat 10))) (cls 9) = true := by decide +kernel
theorem ls_10_0 : alls (lsGo 10 (.le 0)) (cls 10) = true := by decide +kernel
theorem ls_10_1 : alls (lsGo 10 (.int .i64 (.ofNat 1))) (cls 10) = true := by decide +kernel
theorem ls_10_2 : alls (lsGo 10 (.int .i64 (.ofNat 2))) (cls 10) = true := by decide +kernel
theorem ls_10_3 : alls (lsGo 10 (.int .i64 (.ofNat 3))) (cls 10) = true := by decide +kernel
theorem ls_10_4 : alls (lsGo 10 (.int .i64 (.ofNat 4))) (cls 10) = true := by decide +kernel
theorem ls_10_5 : alls (lsGo 10 (.int .i64 (.ofNat 5))) (cls 10) = true := by decide +kernel
theorem ls_10_6 : alls (lsGo 10 (.int .i64 (.ofNat 6))) (cls 10) = true := by decide +kernel
theorem ls_10_7 : alls (lsGo 10 (.int .i64 (.ofNat 7))) (cls 10) = true := by decide +kernel
theorem ls_10_8 : alls (lsGo 10 (.int .i64 (.ofNat 8))) (cls 10) = true := by decide +kernel
theorem ls_10_9 : alls (lsGo 10 (.int .i64 (.ofNat 9))) (cls 10) = true := by decide +kernel
theorem ls_10_10 : alls (lsGo 10 (.int .i64 (.ofNat 10))) (cls 10) = true := by decide +kernel
theorem ls_10_11 : alls (lsGo 10 (.ge (.ofNat 11))) (cls 10) = true := by decide +kernel
theorem ls_11_0 : alls (lsGo 11 (.le 0)) (cls 11) = true := by decide +kernel
theorem ls_11_1 : alls (lsGo 11 (.int .i64 (.ofNat 1))) (cls 11) = true := by decide +kernel
theorem ls_11_2 : alls (lsGo 11 (.int .i64 (.ofNat 2))) (cls 11) = true := by decide +kernel
theorem ls_11_3 : alls (lsGo 11 (.int .i64 (.ofNat 3))) (cls 11) = true := by decide +kernel
end Go.Proofs.Ytlmabmpdbcgabaa.Fin
