/- Cases of the law PrintForms, each run in the kernel. -/
import Derived.Test.YtkaegfgaemnemaaDoorFinPrintFormsB
namespace Go.Proofs.YtkaegfgaemnemaaDoor.Fin
open Go.Proofs.YtkaegfgaemnemaaDoor.Fast Go.RowKit
set_option linter.unusedVariables false
set_option maxRecDepth 1000000
theorem printForms_8_0 : printFormsGo 8 0 = true := by decide +kernel
theorem printForms_8_1 : printFormsGo 8 1 = true := by decide +kernel
theorem printForms_8_2 : printFormsGo 8 2 = true := by decide +kernel
theorem printForms_8_3 : printFormsGo 8 3 = true := by decide +kernel
theorem printForms_8_4 : printFormsGo 8 4 = true := by decide +kernel
theorem printForms_8_5 : printFormsGo 8 5 = true := by decide +kernel
theorem printForms_8_6 : printFormsGo 8 6 = true := by decide +kernel
theorem printForms_8_7 : printFormsGo 8 7 = true := by decide +kernel
end Go.Proofs.YtkaegfgaemnemaaDoor.Fin
