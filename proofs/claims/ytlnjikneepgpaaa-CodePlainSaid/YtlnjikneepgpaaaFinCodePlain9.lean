/- Cases of the law CodePlain, each run in the kernel. -/
import Derived.Test.YtlnjikneepgpaaaFinCodePlainB
namespace Go.Proofs.Ytlnjikneepgpaaa.Fin
open Go.Proofs.Ytlnjikneepgpaaa.Fast Go.RowKit
set_option linter.unusedVariables false
set_option maxRecDepth 1000000
theorem codePlain_5_4 : codePlainGo 5 4 = true := by decide +kernel
theorem codePlain_5_5 : codePlainGo 5 5 = true := by decide +kernel
theorem codePlain_5_6 : codePlainGo 5 6 = true := by decide +kernel
theorem codePlain_5_7 : codePlainGo 5 7 = true := by decide +kernel
theorem codePlain_5_8 : codePlainGo 5 8 = true := by decide +kernel
theorem codePlain_5_9 : codePlainGo 5 9 = true := by decide +kernel
end Go.Proofs.Ytlnjikneepgpaaa.Fin
