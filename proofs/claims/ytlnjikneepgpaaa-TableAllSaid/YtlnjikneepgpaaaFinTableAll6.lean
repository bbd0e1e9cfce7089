/- Cases of the law TableAll, each run in the kernel. -/
import Derived.Test.YtlnjikneepgpaaaFinTableAllB
namespace Go.Proofs.Ytlnjikneepgpaaa.Fin
open Go.Proofs.Ytlnjikneepgpaaa.Fast Go.RowKit Go.Proofs.Ytlnjikneepgpaaa.G
set_option linter.unusedVariables false
set_option maxRecDepth 1000000
theorem ta_18 : alls (taGo (.str 4 1852403562)) (List.range 35) = true := by decide +kernel
theorem ta_19 : alls (taGo (.str 5 500152038771)) (List.range 35) = true := by decide +kernel
theorem ta_20 : alls (taGo (.str 8 8391158787309068656)) (List.range 35) = true := by decide +kernel
end Go.Proofs.Ytlnjikneepgpaaa.Fin
