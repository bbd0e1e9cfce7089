/- Cases of the law CodePlain, each run in the kernel. -/
import Derived.Test.YtlnjikneepgpaaaFinCodePlainB
namespace Go.Proofs.Ytlnjikneepgpaaa.Fin
open Go.Proofs.Ytlnjikneepgpaaa.Fast Go.RowKit
set_option linter.unusedVariables false
set_option maxRecDepth 1000000
theorem codePlain_1_8 : codePlainGo 1 8 = true := by decide +kernel
theorem codePlain_1_9 : codePlainGo 1 9 = true := by decide +kernel
theorem codePlain_2_0 : codePlainGo 2 0 = true := by decide +kernel
theorem codePlain_2_1 : codePlainGo 2 1 = true := by decide +kernel
theorem codePlain_2_2 : codePlainGo 2 2 = true := by decide +kernel
theorem codePlain_2_3 : codePlainGo 2 3 = true := by decide +kernel
end Go.Proofs.Ytlnjikneepgpaaa.Fin
