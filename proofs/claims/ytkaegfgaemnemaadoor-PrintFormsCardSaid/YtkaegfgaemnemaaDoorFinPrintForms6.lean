/- Cases of the law PrintForms, each run in the kernel. -/
import Derived.Test.YtkaegfgaemnemaaDoorFinPrintFormsB
namespace Go.Proofs.YtkaegfgaemnemaaDoor.Fin
open Go.Proofs.YtkaegfgaemnemaaDoor.Fast Go.RowKit
set_option linter.unusedVariables false
set_option maxRecDepth 1000000
theorem printForms_3_0 : printFormsGo 3 0 = true := by decide +kernel
theorem printForms_3_1 : printFormsGo 3 1 = true := by decide +kernel
theorem printForms_3_2 : printFormsGo 3 2 = true := by decide +kernel
theorem printForms_3_3 : printFormsGo 3 3 = true := by decide +kernel
theorem printForms_3_4 : printFormsGo 3 4 = true := by decide +kernel
theorem printForms_3_5 : printFormsGo 3 5 = true := by decide +kernel
theorem printForms_3_6 : printFormsGo 3 6 = true := by decide +kernel
theorem printForms_3_7 : printFormsGo 3 7 = true := by decide +kernel
end Go.Proofs.YtkaegfgaemnemaaDoor.Fin
