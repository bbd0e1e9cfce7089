/- Cases of the law TableAll, each run in the kernel. -/
import Derived.Test.YtlnjikneepgpaaaFinTableAllB
namespace Go.Proofs.Ytlnjikneepgpaaa.Fin
open Go.Proofs.Ytlnjikneepgpaaa.Fast Go.RowKit Go.Proofs.Ytlnjikneepgpaaa.G
set_option linter.unusedVariables false
set_option maxRecDepth 1000000
theorem ta_33 : alls (taGo (.str 5 491496043109)) (List.range 35) = true := by decide +kernel
theorem ta_34 : alls (taGo (.str 7 29113321704808823)) (List.range 35) = true := by decide +kernel
theorem ta_35 : alls (taGo (.str 4 1868983913)) (List.range 35) = true := by decide +kernel
end Go.Proofs.Ytlnjikneepgpaaa.Fin
