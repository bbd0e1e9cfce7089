/- Cases of the law TableAll, each run in the kernel. -/
import Derived.Test.YtlnjikneepgpaaaFinTableAllB
namespace Go.Proofs.Ytlnjikneepgpaaa.Fin
open Go.Proofs.Ytlnjikneepgpaaa.Fast Go.RowKit Go.Proofs.Ytlnjikneepgpaaa.G
set_option linter.unusedVariables false
set_option maxRecDepth 1000000
theorem ta_27 : alls (taGo (.str 3 7628140)) (List.range 35) = true := by decide +kernel
theorem ta_28 : alls (taGo (.str 4 1819042147)) (List.range 35) = true := by decide +kernel
theorem ta_29 : alls (taGo (.str 4 1818326629)) (List.range 35) = true := by decide +kernel
end Go.Proofs.Ytlnjikneepgpaaa.Fin
