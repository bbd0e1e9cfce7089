/- Cases of the law CodePlain, each run in the kernel. -/
import Derived.Test.YtlnjikneepgpaaaFinCodePlainB
namespace Go.Proofs.Ytlnjikneepgpaaa.Fin
open Go.Proofs.Ytlnjikneepgpaaa.Fast Go.RowKit
set_option linter.unusedVariables false
set_option maxRecDepth 1000000
theorem codePlain_6_0 : codePlainGo 6 0 = true := by decide +kernel
theorem codePlain_6_1 : codePlainGo 6 1 = true := by decide +kernel
theorem codePlain_6_2 : codePlainGo 6 2 = true := by decide +kernel
theorem codePlain_6_3 : codePlainGo 6 3 = true := by decide +kernel
theorem codePlain_6_4 : codePlainGo 6 4 = true := by decide +kernel
theorem codePlain_6_5 : codePlainGo 6 5 = true := by decide +kernel
end Go.Proofs.Ytlnjikneepgpaaa.Fin
