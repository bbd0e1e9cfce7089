/- Cases of the law CodePlain, each run in the kernel. -/
import Derived.Test.YtlnjikneepgpaaaFinCodePlainB
namespace Go.Proofs.Ytlnjikneepgpaaa.Fin
open Go.Proofs.Ytlnjikneepgpaaa.Fast Go.RowKit
set_option linter.unusedVariables false
set_option maxRecDepth 1000000
theorem codePlain_7_8 : codePlainGo 7 8 = true := by decide +kernel
theorem codePlain_7_9 : codePlainGo 7 9 = true := by decide +kernel
end Go.Proofs.Ytlnjikneepgpaaa.Fin
