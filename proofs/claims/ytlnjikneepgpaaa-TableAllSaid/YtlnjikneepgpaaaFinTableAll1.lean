/- Cases of the law TableAll, each run in the kernel. -/
import Derived.Test.YtlnjikneepgpaaaFinTableAllB
namespace Go.Proofs.Ytlnjikneepgpaaa.Fin
open Go.Proofs.Ytlnjikneepgpaaa.Fast Go.RowKit Go.Proofs.Ytlnjikneepgpaaa.G
set_option linter.unusedVariables false
set_option maxRecDepth 1000000
theorem ta_3 : alls (taGo (.str 5 495606460279)) (List.range 35) = true := by decide +kernel
theorem ta_4 : alls (taGo (.str 9 1852920348155730618726)) (List.range 35) = true := by decide +kernel
theorem ta_5 : alls (taGo (.str 8 7237970109983318380)) (List.range 35) = true := by decide +kernel
end Go.Proofs.Ytlnjikneepgpaaa.Fin
