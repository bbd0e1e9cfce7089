/- Cases of the law SoundArgs, each run in the kernel. -/
import Derived.Test.YtlnjikneepgpaaaFinSoundArgsB
namespace Go.Proofs.Ytlnjikneepgpaaa.Fin
open Go.Proofs.Ytlnjikneepgpaaa.Fast Go.RowKit
set_option linter.unusedVariables false
set_option maxRecDepth 1000000
theorem soundArgs_5_0_true : soundArgsGo 5 0 true = true := by decide +kernel
theorem soundArgs_5_0_false : soundArgsGo 5 0 false = true := by decide +kernel
theorem soundArgs_5_1_true : soundArgsGo 5 1 true = true := by decide +kernel
theorem soundArgs_5_1_false : soundArgsGo 5 1 false = true := by decide +kernel
theorem soundArgs_5_2_true : soundArgsGo 5 2 true = true := by decide +kernel
theorem soundArgs_5_2_false : soundArgsGo 5 2 false = true := by decide +kernel
theorem soundArgs_5_3_true : soundArgsGo 5 3 true = true := by decide +kernel
theorem soundArgs_5_3_false : soundArgsGo 5 3 false = true := by decide +kernel
theorem soundArgs_5_4_true : soundArgsGo 5 4 true = true := by decide +kernel
theorem soundArgs_5_4_false : soundArgsGo 5 4 false = true := by decide +kernel
theorem soundArgs_5_5_true : soundArgsGo 5 5 true = true := by decide +kernel
theorem soundArgs_5_5_false : soundArgsGo 5 5 false = true := by decide +kernel
theorem soundArgs_5_6_true : soundArgsGo 5 6 true = true := by decide +kernel
theorem soundArgs_5_6_false : soundArgsGo 5 6 false = true := by decide +kernel
theorem soundArgs_5_7_true : soundArgsGo 5 7 true = true := by decide +kernel
theorem soundArgs_5_7_false : soundArgsGo 5 7 false = true := by decide +kernel
end Go.Proofs.Ytlnjikneepgpaaa.Fin
