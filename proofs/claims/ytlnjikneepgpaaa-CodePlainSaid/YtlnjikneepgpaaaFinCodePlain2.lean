/- Cases of the law CodePlain, each run in the kernel. -/
import Derived.Test.YtlnjikneepgpaaaFinCodePlainB
namespace Go.Proofs.Ytlnjikneepgpaaa.Fin
open Go.Proofs.Ytlnjikneepgpaaa.Fast Go.RowKit
set_option linter.unusedVariables false
set_option maxRecDepth 1000000
theorem codePlain_1_2 : codePlainGo 1 2 = true := by decide +kernel
theorem codePlain_1_3 : codePlainGo 1 3 = true := by decide +kernel
theorem codePlain_1_4 : codePlainGo 1 4 = true := by decide +kernel
theorem codePlain_1_5 : codePlainGo 1 5 = true := by decide +kernel
theorem codePlain_1_6 : codePlainGo 1 6 = true := by decide +kernel
theorem codePlain_1_7 : codePlainGo 1 7 = true := by decide +kernel
end Go.Proofs.Ytlnjikneepgpaaa.Fin
