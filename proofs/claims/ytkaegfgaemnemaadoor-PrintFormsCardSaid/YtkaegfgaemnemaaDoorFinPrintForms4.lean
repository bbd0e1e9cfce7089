/- Cases of the law PrintForms, each run in the kernel. -/
import Derived.Test.YtkaegfgaemnemaaDoorFinPrintFormsB
namespace Go.Proofs.YtkaegfgaemnemaaDoor.Fin
open Go.Proofs.YtkaegfgaemnemaaDoor.Fast Go.RowKit
set_option linter.unusedVariables false
set_option maxRecDepth 1000000
theorem printForms_2_0 : printFormsGo 2 0 = true := by decide +kernel
theorem printForms_2_1 : printFormsGo 2 1 = true := by decide +kernel
theorem printForms_2_2 : printFormsGo 2 2 = true := by decide +kernel
theorem printForms_2_3 : printFormsGo 2 3 = true := by decide +kernel
theorem printForms_2_4 : printFormsGo 2 4 = true := by decide +kernel
theorem printForms_2_5 : printFormsGo 2 5 = true := by decide +kernel
theorem printForms_2_6 : printFormsGo 2 6 = true := by decide +kernel
theorem printForms_2_7 : printFormsGo 2 7 = true := by decide +kernel
end Go.Proofs.YtkaegfgaemnemaaDoor.Fin
