/- Cases of the law TableAll, each run in the kernel. -/
import Derived.Test.YtlnjikneepgpaaaFinTableAllB
namespace Go.Proofs.Ytlnjikneepgpaaa.Fin
open Go.Proofs.Ytlnjikneepgpaaa.Fast Go.RowKit Go.Proofs.Ytlnjikneepgpaaa.G
set_option linter.unusedVariables false
set_option maxRecDepth 1000000
theorem ta_21 : alls (taGo (.str 8 8391166444983971703)) (List.range 35) = true := by decide +kernel
theorem ta_22 : alls (taGo (.str 2 26217)) (List.range 35) = true := by decide +kernel
theorem ta_23 : alls (taGo (.str 2 29295)) (List.range 35) = true := by decide +kernel
end Go.Proofs.Ytlnjikneepgpaaa.Fin
