/- Cases of the law SoundArgs, each run in the kernel. -/
import Derived.Test.YtlnjikneepgpaaaFinSoundArgsB
namespace Go.Proofs.Ytlnjikneepgpaaa.Fin
open Go.Proofs.Ytlnjikneepgpaaa.Fast Go.RowKit
set_option linter.unusedVariables false
set_option maxRecDepth 1000000
theorem soundArgs_0_0_true : soundArgsGo 0 0 true = true := by decide +kernel
theorem soundArgs_0_0_false : soundArgsGo 0 0 false = true := by decide +kernel
theorem soundArgs_0_1_true : soundArgsGo 0 1 true = true := by decide +kernel
theorem soundArgs_0_1_false : soundArgsGo 0 1 false = true := by decide +kernel
theorem soundArgs_0_2_true : soundArgsGo 0 2 true = true := by decide +kernel
theorem soundArgs_0_2_false : soundArgsGo 0 2 false = true := by decide +kernel
theorem soundArgs_0_3_true : soundArgsGo 0 3 true = true := by decide +kernel
theorem soundArgs_0_3_false : soundArgsGo 0 3 false = true := by decide +kernel
theorem soundArgs_0_4_true : soundArgsGo 0 4 true = true := by decide +kernel
theorem soundArgs_0_4_false : soundArgsGo 0 4 false = true := by decide +kernel
theorem soundArgs_0_5_true : soundArgsGo 0 5 true = true := by decide +kernel
theorem soundArgs_0_5_false : soundArgsGo 0 5 false = true := by decide +kernel
theorem soundArgs_0_6_true : soundArgsGo 0 6 true = true := by decide +kernel
theorem soundArgs_0_6_false : soundArgsGo 0 6 false = true := by decide +kernel
theorem soundArgs_0_7_true : soundArgsGo 0 7 true = true := by decide +kernel
theorem soundArgs_0_7_false : soundArgsGo 0 7 false = true := by decide +kernel
end Go.Proofs.Ytlnjikneepgpaaa.Fin
