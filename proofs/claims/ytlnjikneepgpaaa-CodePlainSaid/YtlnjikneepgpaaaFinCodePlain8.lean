/- Cases of the law CodePlain, each run in the kernel. -/
import Derived.Test.YtlnjikneepgpaaaFinCodePlainB
namespace Go.Proofs.Ytlnjikneepgpaaa.Fin
open Go.Proofs.Ytlnjikneepgpaaa.Fast Go.RowKit
set_option linter.unusedVariables false
set_option maxRecDepth 1000000
theorem codePlain_4_8 : codePlainGo 4 8 = true := by decide +kernel
theorem codePlain_4_9 : codePlainGo 4 9 = true := by decide +kernel
theorem codePlain_5_0 : codePlainGo 5 0 = true := by decide +kernel
theorem codePlain_5_1 : codePlainGo 5 1 = true := by decide +kernel
theorem codePlain_5_2 : codePlainGo 5 2 = true := by decide +kernel
theorem codePlain_5_3 : codePlainGo 5 3 = true := by decide +kernel
end Go.Proofs.Ytlnjikneepgpaaa.Fin
