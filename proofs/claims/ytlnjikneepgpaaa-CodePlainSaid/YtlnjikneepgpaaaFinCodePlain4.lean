/- Cases of the law CodePlain, each run in the kernel. -/
import Derived.Test.YtlnjikneepgpaaaFinCodePlainB
namespace Go.Proofs.Ytlnjikneepgpaaa.Fin
open Go.Proofs.Ytlnjikneepgpaaa.Fast Go.RowKit
set_option linter.unusedVariables false
set_option maxRecDepth 1000000
theorem codePlain_2_4 : codePlainGo 2 4 = true := by decide +kernel
theorem codePlain_2_5 : codePlainGo 2 5 = true := by decide +kernel
theorem codePlain_2_6 : codePlainGo 2 6 = true := by decide +kernel
theorem codePlain_2_7 : codePlainGo 2 7 = true := by decide +kernel
theorem codePlain_2_8 : codePlainGo 2 8 = true := by decide +kernel
theorem codePlain_2_9 : codePlainGo 2 9 = true := by decide +kernel
end Go.Proofs.Ytlnjikneepgpaaa.Fin
