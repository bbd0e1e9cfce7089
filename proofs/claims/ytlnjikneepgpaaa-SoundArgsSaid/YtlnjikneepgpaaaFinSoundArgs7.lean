/- Cases of the law SoundArgs, each run in the kernel. -/
import Derived.Test.YtlnjikneepgpaaaFinSoundArgsB
namespace Go.Proofs.Ytlnjikneepgpaaa.Fin
open Go.Proofs.Ytlnjikneepgpaaa.Fast Go.RowKit
set_option linter.unusedVariables false
set_option maxRecDepth 1000000
theorem soundArgs_7_0_true : soundArgsGo 7 0 true = true := by decide +kernel
theorem soundArgs_7_0_false : soundArgsGo 7 0 false = true := by decide +kernel
theorem soundArgs_7_1_true : soundArgsGo 7 1 true = true := by decide +kernel
theorem soundArgs_7_1_false : soundArgsGo 7 1 false = true := by decide +kernel
theorem soundArgs_7_2_true : soundArgsGo 7 2 true = true := by decide +kernel
theorem soundArgs_7_2_false : soundArgsGo 7 2 false = true := by decide +kernel
theorem soundArgs_7_3_true : soundArgsGo 7 3 true = true := by decide +kernel
theorem soundArgs_7_3_false : soundArgsGo 7 3 false = true := by decide +kernel
theorem soundArgs_7_4_true : soundArgsGo 7 4 true = true := by decide +kernel
theorem soundArgs_7_4_false : soundArgsGo 7 4 false = true := by decide +kernel
theorem soundArgs_7_5_true : soundArgsGo 7 5 true = true := by decide +kernel
theorem soundArgs_7_5_false : soundArgsGo 7 5 false = true := by decide +kernel
theorem soundArgs_7_6_true : soundArgsGo 7 6 true = true := by decide +kernel
theorem soundArgs_7_6_false : soundArgsGo 7 6 false = true := by decide +kernel
theorem soundArgs_7_7_true : soundArgsGo 7 7 true = true := by decide +kernel
theorem soundArgs_7_7_false : soundArgsGo 7 7 false = true := by decide +kernel
end Go.Proofs.Ytlnjikneepgpaaa.Fin
