/- Cases of the law TableAll, each run in the kernel. -/
import Derived.Test.YtlnjikneepgpaaaFinTableAllB
namespace Go.Proofs.Ytlnjikneepgpaaa.Fin
open Go.Proofs.Ytlnjikneepgpaaa.Fast Go.RowKit Go.Proofs.Ytlnjikneepgpaaa.G
set_option linter.unusedVariables false
set_option maxRecDepth 1000000
theorem ta_9 : alls (taGo (.str 8 7308604897068540258)) (List.range 35) = true := by decide +kernel
theorem ta_10 : alls (taGo (.str 7 29401359425167969)) (List.range 35) = true := by decide +kernel
theorem ta_11 : alls (taGo (.str 8 7237954630652291447)) (List.range 35) = true := by decide +kernel
end Go.Proofs.Ytlnjikneepgpaaa.Fin
