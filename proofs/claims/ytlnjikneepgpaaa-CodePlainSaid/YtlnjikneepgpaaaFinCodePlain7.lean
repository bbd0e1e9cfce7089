/- Cases of the law CodePlain, each run in the kernel. -/
import Derived.Test.YtlnjikneepgpaaaFinCodePlainB
namespace Go.Proofs.Ytlnjikneepgpaaa.Fin
open Go.Proofs.Ytlnjikneepgpaaa.Fast Go.RowKit
set_option linter.unusedVariables false
set_option maxRecDepth 1000000
theorem codePlain_4_2 : codePlainGo 4 2 = true := by decide +kernel
theorem codePlain_4_3 : codePlainGo 4 3 = true := by decide +kernel
theorem codePlain_4_4 : codePlainGo 4 4 = true := by decide +kernel
theorem codePlain_4_5 : codePlainGo 4 5 = true := by decide +kernel
theorem codePlain_4_6 : codePlainGo 4 6 = true := by decide +kernel
theorem codePlain_4_7 : codePlainGo 4 7 = true := by decide +kernel
end Go.Proofs.Ytlnjikneepgpaaa.Fin
