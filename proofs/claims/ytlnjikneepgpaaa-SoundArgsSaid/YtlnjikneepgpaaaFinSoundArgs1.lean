/- Cases of the law SoundArgs, each run in the kernel. -/
import Derived.Test.YtlnjikneepgpaaaFinSoundArgsB
namespace Go.Proofs.Ytlnjikneepgpaaa.Fin
open Go.Proofs.Ytlnjikneepgpaaa.Fast Go.RowKit
set_option linter.unusedVariables false
set_option maxRecDepth 1000000
theorem soundArgs_1_0_true : soundArgsGo 1 0 true = true := by decide +kernel
theorem soundArgs_1_0_false : soundArgsGo 1 0 false = true := by decide +kernel
theorem soundArgs_1_1_true : soundArgsGo 1 1 true = true := by decide +kernel
theorem soundArgs_1_1_false : soundArgsGo 1 1 false = true := by decide +kernel
theorem soundArgs_1_2_true : soundArgsGo 1 2 true = true := by decide +kernel
theorem soundArgs_1_2_false : soundArgsGo 1 2 false = true := by decide +kernel
theorem soundArgs_1_3_true : soundArgsGo 1 3 true = true := by decide +kernel
theorem soundArgs_1_3_false : soundArgsGo 1 3 false = true := by decide +kernel
theorem soundArgs_1_4_true : soundArgsGo 1 4 true = true := by decide +kernel
theorem soundArgs_1_4_false : soundArgsGo 1 4 false = true := by decide +kernel
theorem soundArgs_1_5_true : soundArgsGo 1 5 true = true := by decide +kernel
theorem soundArgs_1_5_false : soundArgsGo 1 5 false = true := by decide +kernel
theorem soundArgs_1_6_true : soundArgsGo 1 6 true = true := by decide +kernel
theorem soundArgs_1_6_false : soundArgsGo 1 6 false = true := by decide +kernel
theorem soundArgs_1_7_true : soundArgsGo 1 7 true = true := by decide +kernel
theorem soundArgs_1_7_false : soundArgsGo 1 7 false = true := by decide +kernel
end Go.Proofs.Ytlnjikneepgpaaa.Fin
