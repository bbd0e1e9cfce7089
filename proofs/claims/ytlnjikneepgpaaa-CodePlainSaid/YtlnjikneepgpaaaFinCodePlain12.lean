/- Cases of the law CodePlain, each run in the kernel. -/
import Derived.Test.YtlnjikneepgpaaaFinCodePlainB
namespace Go.Proofs.Ytlnjikneepgpaaa.Fin
open Go.Proofs.Ytlnjikneepgpaaa.Fast Go.RowKit
set_option linter.unusedVariables false
set_option maxRecDepth 1000000
theorem codePlain_7_2 : codePlainGo 7 2 = true := by decide +kernel
theorem codePlain_7_3 : codePlainGo 7 3 = true := by decide +kernel
theorem codePlain_7_4 : codePlainGo 7 4 = true := by decide +kernel
theorem codePlain_7_5 : codePlainGo 7 5 = true := by decide +kernel
theorem codePlain_7_6 : codePlainGo 7 6 = true := by decide +kernel
theorem codePlain_7_7 : codePlainGo 7 7 = true := by decide +kernel
end Go.Proofs.Ytlnjikneepgpaaa.Fin
