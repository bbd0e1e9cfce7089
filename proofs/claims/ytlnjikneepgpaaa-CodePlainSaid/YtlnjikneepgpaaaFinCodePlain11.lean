/- Cases of the law CodePlain, each run in the kernel. -/
import Derived.Test.YtlnjikneepgpaaaFinCodePlainB
namespace Go.Proofs.Ytlnjikneepgpaaa.Fin
open Go.Proofs.Ytlnjikneepgpaaa.Fast Go.RowKit
set_option linter.unusedVariables false
set_option maxRecDepth 1000000
theorem codePlain_6_6 : codePlainGo 6 6 = true := by decide +kernel
theorem codePlain_6_7 : codePlainGo 6 7 = true := by decide +kernel
theorem codePlain_6_8 : codePlainGo 6 8 = true := by decide +kernel
theorem codePlain_6_9 : codePlainGo 6 9 = true := by decide +kernel
theorem codePlain_7_0 : codePlainGo 7 0 = true := by decide +kernel
theorem codePlain_7_1 : codePlainGo 7 1 = true := by decide +kernel
end Go.Proofs.Ytlnjikneepgpaaa.Fin
