/- Cases of the law CodePlain, each run in the kernel. -/
import Derived.Test.YtlnjikneepgpaaaFinCodePlainB
namespace Go.Proofs.Ytlnjikneepgpaaa.Fin
open Go.Proofs.Ytlnjikneepgpaaa.Fast Go.RowKit
set_option linter.unusedVariables false
set_option maxRecDepth 1000000
theorem codePlain_0_0 : codePlainGo 0 0 = true := by decide +kernel
theorem codePlain_0_1 : codePlainGo 0 1 = true := by decide +kernel
theorem codePlain_0_2 : codePlainGo 0 2 = true := by decide +kernel
theorem codePlain_0_3 : codePlainGo 0 3 = true := by decide +kernel
theorem codePlain_0_4 : codePlainGo 0 4 = true := by decide +kernel
theorem codePlain_0_5 : codePlainGo 0 5 = true := by decide +kernel
end Go.Proofs.Ytlnjikneepgpaaa.Fin
