/- Cases of the law TableAll, each run in the kernel. -/
import Derived.Test.YtlnjikneepgpaaaFinTableAllB
namespace Go.Proofs.Ytlnjikneepgpaaa.Fin
open Go.Proofs.Ytlnjikneepgpaaa.Fast Go.RowKit Go.Proofs.Ytlnjikneepgpaaa.G
set_option linter.unusedVariables false
set_option maxRecDepth 1000000
theorem ta_24 : alls (taGo (.str 3 6581857)) (List.range 35) = true := by decide +kernel
theorem ta_25 : alls (taGo (.str 6 123615122321001)) (List.range 35) = true := by decide +kernel
theorem ta_26 : alls (taGo (.str 7 29382667542884198)) (List.range 35) = true := by decide +kernel
end Go.Proofs.Ytlnjikneepgpaaa.Fin
