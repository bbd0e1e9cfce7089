/- Cases of the law SoundArgs, each run in the kernel. -/
import Derived.Test.YtlnjikneepgpaaaFinSoundArgsB
namespace Go.Proofs.Ytlnjikneepgpaaa.Fin
open Go.Proofs.Ytlnjikneepgpaaa.Fast Go.RowKit
set_option linter.unusedVariables false
set_option maxRecDepth 1000000
theorem soundArgs_2_0_true : soundArgsGo 2 0 true = true := by decide +kernel
theorem soundArgs_2_0_false : soundArgsGo 2 0 false = true := by decide +kernel
theorem soundArgs_2_1_true : soundArgsGo 2 1 true = true := by decide +kernel
theorem soundArgs_2_1_false : soundArgsGo 2 1 false = true := by decide +kernel
theorem soundArgs_2_2_true : soundArgsGo 2 2 true = true := by decide +kernel
theorem soundArgs_2_2_false : soundArgsGo 2 2 false = true := by decide +kernel
theorem soundArgs_2_3_true : soundArgsGo 2 3 true = true := by decide +kernel
theorem soundArgs_2_3_false : soundArgsGo 2 3 false = true := by decide +kernel
theorem soundArgs_2_4_true : soundArgsGo 2 4 true = true := by decide +kernel
theorem soundArgs_2_4_false : soundArgsGo 2 4 false = true := by decide +kernel
theorem soundArgs_2_5_true : soundArgsGo 2 5 true = true := by decide +kernel
theorem soundArgs_2_5_false : soundArgsGo 2 5 false = true := by decide +kernel
theorem soundArgs_2_6_true : soundArgsGo 2 6 true = true := by decide +kernel
theorem soundArgs_2_6_false : soundArgsGo 2 6 false = true := by decide +kernel
theorem soundArgs_2_7_true : soundArgsGo 2 7 true = true := by decide +kernel
theorem soundArgs_2_7_false : soundArgsGo 2 7 false = true := by decide +kernel
end Go.Proofs.Ytlnjikneepgpaaa.Fin
