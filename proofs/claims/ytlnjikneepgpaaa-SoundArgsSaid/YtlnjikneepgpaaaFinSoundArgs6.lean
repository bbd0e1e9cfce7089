/- Cases of the law SoundArgs, each run in the kernel. -/
import Derived.Test.YtlnjikneepgpaaaFinSoundArgsB
namespace Go.Proofs.Ytlnjikneepgpaaa.Fin
open Go.Proofs.Ytlnjikneepgpaaa.Fast Go.RowKit
set_option linter.unusedVariables false
set_option maxRecDepth 1000000
theorem soundArgs_6_0_true : soundArgsGo 6 0 true = true := by decide +kernel
theorem soundArgs_6_0_false : soundArgsGo 6 0 false = true := by decide +kernel
theorem soundArgs_6_1_true : soundArgsGo 6 1 true = true := by decide +kernel
theorem soundArgs_6_1_false : soundArgsGo 6 1 false = true := by decide +kernel
theorem soundArgs_6_2_true : soundArgsGo 6 2 true = true := by decide +kernel
theorem soundArgs_6_2_false : soundArgsGo 6 2 false = true := by decide +kernel
theorem soundArgs_6_3_true : soundArgsGo 6 3 true = true := by decide +kernel
theorem soundArgs_6_3_false : soundArgsGo 6 3 false = true := by decide +kernel
theorem soundArgs_6_4_true : soundArgsGo 6 4 true = true := by decide +kernel
theorem soundArgs_6_4_false : soundArgsGo 6 4 false = true := by decide +kernel
theorem soundArgs_6_5_true : soundArgsGo 6 5 true = true := by decide +kernel
theorem soundArgs_6_5_false : soundArgsGo 6 5 false = true := by decide +kernel
theorem soundArgs_6_6_true : soundArgsGo 6 6 true = true := by decide +kernel
theorem soundArgs_6_6_false : soundArgsGo 6 6 false = true := by decide +kernel
theorem soundArgs_6_7_true : soundArgsGo 6 7 true = true := by decide +kernel
theorem soundArgs_6_7_false : soundArgsGo 6 7 false = true := by decide +kernel
end Go.Proofs.Ytlnjikneepgpaaa.Fin
