/- Cases of the law CodePlain, each run in the kernel. -/
import Derived.Test.YtlnjikneepgpaaaFinCodePlainB
namespace Go.Proofs.Ytlnjikneepgpaaa.Fin
open Go.Proofs.Ytlnjikneepgpaaa.Fast Go.RowKit
set_option linter.unusedVariables false
set_option maxRecDepth 1000000
theorem codePlain_3_6 : codePlainGo 3 6 = true := by decide +kernel
theorem codePlain_3_7 : codePlainGo 3 7 = true := by decide +kernel
theorem codePlain_3_8 : codePlainGo 3 8 = true := by decide +kernel
theorem codePlain_3_9 : codePlainGo 3 9 = true := by decide +kernel
theorem codePlain_4_0 : codePlainGo 4 0 = true := by decide +kernel
theorem codePlain_4_1 : codePlainGo 4 1 = true := by decide +kernel
end Go.Proofs.Ytlnjikneepgpaaa.Fin
