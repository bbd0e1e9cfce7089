/- Cases of the law CodePlain, each run in the kernel. -/
import Derived.Test.YtlnjikneepgpaaaFinCodePlainB
namespace Go.Proofs.Ytlnjikneepgpaaa.Fin
open Go.Proofs.Ytlnjikneepgpaaa.Fast Go.RowKit
set_option linter.unusedVariables false
set_option maxRecDepth 1000000
theorem codePlain_0_6 : codePlainGo 0 6 = true := by decide +kernel
theorem codePlain_0_7 : codePlainGo 0 7 = true := by decide +kernel
theorem codePlain_0_8 : codePlainGo 0 8 = true := by decide +kernel
theorem codePlain_0_9 : codePlainGo 0 9 = true := by decide +kernel
theorem codePlain_1_0 : codePlainGo 1 0 = true := by decide +kernel
theorem codePlain_1_1 : codePlainGo 1 1 = true := by decide +kernel
end Go.Proofs.Ytlnjikneepgpaaa.Fin
