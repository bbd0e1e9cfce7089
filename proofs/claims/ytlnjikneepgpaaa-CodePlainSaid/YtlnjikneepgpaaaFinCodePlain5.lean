/- Cases of the law CodePlain, each run in the kernel. -/
import Derived.Test.YtlnjikneepgpaaaFinCodePlainB
namespace Go.Proofs.Ytlnjikneepgpaaa.Fin
open Go.Proofs.Ytlnjikneepgpaaa.Fast Go.RowKit
set_option linter.unusedVariables false
set_option maxRecDepth 1000000
theorem codePlain_3_0 : codePlainGo 3 0 = true := by decide +kernel
theorem codePlain_3_1 : codePlainGo 3 1 = true := by decide +kernel
theorem codePlain_3_2 : codePlainGo 3 2 = true := by decide +kernel
theorem codePlain_3_3 : codePlainGo 3 3 = true := by decide +kernel
theorem codePlain_3_4 : codePlainGo 3 4 = true := by decide +kernel
theorem codePlain_3_5 : codePlainGo 3 5 = true := by decide +kernel
end Go.Proofs.Ytlnjikneepgpaaa.Fin
