/- Cases of the law SoundArgs, each run in the kernel. -/
import Derived.Test.YtlnjikneepgpaaaFinSoundArgsB
namespace Go.Proofs.Ytlnjikneepgpaaa.Fin
open Go.Proofs.Ytlnjikneepgpaaa.Fast Go.RowKit
set_option linter.unusedVariables false
set_option maxRecDepth 1000000
theorem soundArgs_4_0_true : soundArgsGo 4 0 true = true := by decide +kernel
theorem soundArgs_4_0_false : soundArgsGo 4 0 false = true := by decide +kernel
theorem soundArgs_4_1_true : soundArgsGo 4 1 true = true := by decide +kernel
theorem soundArgs_4_1_false : soundArgsGo 4 1 false = true := by decide +kernel
theorem soundArgs_4_2_true : soundArgsGo 4 2 true = true := by decide +kernel
theorem soundArgs_4_2_false : soundArgsGo 4 2 false = true := by decide +kernel
theorem soundArgs_4_3_true : soundArgsGo 4 3 true = true := by decide +kernel
theorem soundArgs_4_3_false : soundArgsGo 4 3 false = true := by decide +kernel
theorem soundArgs_4_4_true : soundArgsGo 4 4 true = true := by decide +kernel
theorem soundArgs_4_4_false : soundArgsGo 4 4 false = true := by decide +kernel
theorem soundArgs_4_5_true : soundArgsGo 4 5 true = true := by decide +kernel
theorem soundArgs_4_5_false : soundArgsGo 4 5 false = true := by decide +kernel
theorem soundArgs_4_6_true : soundArgsGo 4 6 true = true := by decide +kernel
theorem soundArgs_4_6_false : soundArgsGo 4 6 false = true := by decide +kernel
theorem soundArgs_4_7_true : soundArgsGo 4 7 true = true := by decide +kernel
theorem soundArgs_4_7_false : soundArgsGo 4 7 false = true := by decide +kernel
end Go.Proofs.Ytlnjikneepgpaaa.Fin
