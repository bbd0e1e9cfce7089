/- Cases of the law TableAll, each run in the kernel. -/
import Derived.Test.YtlnjikneepgpaaaFinTableAllB
namespace Go.Proofs.Ytlnjikneepgpaaa.Fin
open Go.Proofs.Ytlnjikneepgpaaa.Fast Go.RowKit Go.Proofs.Ytlnjikneepgpaaa.G
set_option linter.unusedVariables false
set_option maxRecDepth 1000000
theorem ta_0 : alls (taGo (.notin keysV)) (List.range 35) = true := by decide +kernel
theorem ta_1 : alls (taGo (.str 5 482805445747)) (List.range 35) = true := by decide +kernel
theorem ta_2 : alls (taGo (.str 4 1953656691)) (List.range 35) = true := by decide +kernel
end Go.Proofs.Ytlnjikneepgpaaa.Fin
