/- Cases of the law PrintForms, each run in the kernel. -/
import Derived.Test.YtkaegfgaemnemaaDoorFinPrintFormsB
namespace Go.Proofs.YtkaegfgaemnemaaDoor.Fin
open Go.Proofs.YtkaegfgaemnemaaDoor.Fast Go.RowKit
set_option linter.unusedVariables false
set_option maxRecDepth 1000000
theorem printForms_1_0 : printFormsGo 1 0 = true := by decide +kernel
theorem printForms_1_1 : printFormsGo 1 1 = true := by decide +kernel
theorem printForms_1_2 : printFormsGo 1 2 = true := by decide +kernel
theorem printForms_1_3 : printFormsGo 1 3 = true := by decide +kernel
theorem printForms_1_4 : printFormsGo 1 4 = true := by decide +kernel
theorem printForms_1_5 : printFormsGo 1 5 = true := by decide +kernel
theorem printForms_1_6 : printFormsGo 1 6 = true := by decide +kernel
theorem printForms_1_7 : printFormsGo 1 7 = true := by decide +kernel
end Go.Proofs.YtkaegfgaemnemaaDoor.Fin
