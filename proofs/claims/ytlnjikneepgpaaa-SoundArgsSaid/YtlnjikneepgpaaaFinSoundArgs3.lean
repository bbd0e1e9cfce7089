/- Cases of the law SoundArgs, each run in the kernel. -/
import Derived.Test.YtlnjikneepgpaaaFinSoundArgsB
namespace Go.Proofs.Ytlnjikneepgpaaa.Fin
open Go.Proofs.Ytlnjikneepgpaaa.Fast Go.RowKit
set_option linter.unusedVariables false
set_option maxRecDepth 1000000
theorem soundArgs_3_0_true : soundArgsGo 3 0 true = true := by decide +kernel
theorem soundArgs_3_0_false : soundArgsGo 3 0 false = true := by decide +kernel
theorem soundArgs_3_1_true : soundArgsGo 3 1 true = true := by decide +kernel
theorem soundArgs_3_1_false : soundArgsGo 3 1 false = true := by decide +kernel
theorem soundArgs_3_2_true : soundArgsGo 3 2 true = true := by decide +kernel
theorem soundArgs_3_2_false : soundArgsGo 3 2 false = true := by decide +kernel
theorem soundArgs_3_3_true : soundArgsGo 3 3 true = true := by decide +kernel
theorem soundArgs_3_3_false : soundArgsGo 3 3 false = true := by decide +kernel
theorem soundArgs_3_4_true : soundArgsGo 3 4 true = true := by decide +kernel
theorem soundArgs_3_4_false : soundArgsGo 3 4 false = true := by decide +kernel
theorem soundArgs_3_5_true : soundArgsGo 3 5 true = true := by decide +kernel
theorem soundArgs_3_5_false : soundArgsGo 3 5 false = true := by decide +kernel
theorem soundArgs_3_6_true : soundArgsGo 3 6 true = true := by decide +kernel
theorem soundArgs_3_6_false : soundArgsGo 3 6 false = true := by decide +kernel
theorem soundArgs_3_7_true : soundArgsGo 3 7 true = true := by decide +kernel
theorem soundArgs_3_7_false : soundArgsGo 3 7 false = true := by decide +kernel
end Go.Proofs.Ytlnjikneepgpaaa.Fin
