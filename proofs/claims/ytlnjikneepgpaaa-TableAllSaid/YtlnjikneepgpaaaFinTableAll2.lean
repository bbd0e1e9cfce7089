/- Cases of the law TableAll, each run in the kernel. -/
import Derived.Test.YtlnjikneepgpaaaFinTableAllB
namespace Go.Proofs.Ytlnjikneepgpaaa.Fin
open Go.Proofs.Ytlnjikneepgpaaa.Fast Go.RowKit Go.Proofs.Ytlnjikneepgpaaa.G
set_option linter.unusedVariables false
set_option maxRecDepth 1000000
theorem ta_6 : alls (taGo (.str 3 7498084)) (List.range 35) = true := by decide +kernel
theorem ta_7 : alls (taGo (.str 6 125796982484846)) (List.range 35) = true := by decide +kernel
theorem ta_8 : alls (taGo (.str 6 132394084889971)) (List.range 35) = true := by decide +kernel
end Go.Proofs.Ytlnjikneepgpaaa.Fin
