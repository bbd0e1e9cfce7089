/- Cases of the law TableAll, each run in the kernel. -/
import Derived.Test.YtlnjikneepgpaaaFinTableAllB
namespace Go.Proofs.Ytlnjikneepgpaaa.Fin
open Go.Proofs.Ytlnjikneepgpaaa.Fast Go.RowKit Go.Proofs.Ytlnjikneepgpaaa.G
set_option linter.unusedVariables false
set_option maxRecDepth 1000000
theorem ta_30 : alls (taGo (.str 5 435761734006)) (List.range 35) = true := by decide +kernel
theorem ta_31 : alls (taGo (.str 6 121398985585263)) (List.range 35) = true := by decide +kernel
theorem ta_32 : alls (taGo (.str 6 125823053032550)) (List.range 35) = true := by decide +kernel
end Go.Proofs.Ytlnjikneepgpaaa.Fin
