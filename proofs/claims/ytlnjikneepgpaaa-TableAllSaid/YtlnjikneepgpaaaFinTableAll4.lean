/- Cases of the law TableAll, each run in the kernel. -/
import Derived.Test.YtlnjikneepgpaaaFinTableAllB
namespace Go.Proofs.Ytlnjikneepgpaaa.Fin
open Go.Proofs.Ytlnjikneepgpaaa.Fast Go.RowKit Go.Proofs.Ytlnjikneepgpaaa.G
set_option linter.unusedVariables false
set_option maxRecDepth 1000000
theorem ta_12 : alls (taGo (.str 10 488440487847241790155110)) (List.range 35) = true := by decide +kernel
theorem ta_13 : alls (taGo (.str 6 125780070525286)) (List.range 35) = true := by decide +kernel
theorem ta_14 : alls (taGo (.str 10 549960792254595094833510)) (List.range 35) = true := by decide +kernel
end Go.Proofs.Ytlnjikneepgpaaa.Fin
