/- Cases of the law TableAll, each run in the kernel. -/
import Derived.Test.YtlnjikneepgpaaaFinTableAllB
namespace Go.Proofs.Ytlnjikneepgpaaa.Fin
open Go.Proofs.Ytlnjikneepgpaaa.Fast Go.RowKit Go.Proofs.Ytlnjikneepgpaaa.G
set_option linter.unusedVariables false
set_option maxRecDepth 1000000
theorem ta_15 : alls (taGo (.str 4 1685221239)) (List.range 35) = true := by decide +kernel
theorem ta_16 : alls (taGo (.str 9 2221204159321386280033)) (List.range 35) = true := by decide +kernel
theorem ta_17 : alls (taGo (.str 9 2221204158208939418721)) (List.range 35) = true := by decide +kernel
end Go.Proofs.Ytlnjikneepgpaaa.Fin
