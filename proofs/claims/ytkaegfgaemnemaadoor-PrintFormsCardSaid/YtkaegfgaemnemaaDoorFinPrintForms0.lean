/- Cases of the law PrintForms, each run in the kernel. -/
import Derived.Test.YtkaegfgaemnemaaDoorFinPrintFormsB
namespace Go.Proofs.YtkaegfgaemnemaaDoor.Fin
open Go.Proofs.YtkaegfgaemnemaaDoor.Fast Go.RowKit
set_option linter.unusedVariables false
set_option maxRecDepth 1000000
theorem printForms_0_0 : printFormsGo 0 0 = true := by decide +kernel
theorem printForms_0_1 : printFormsGo 0 1 = true := by decide +kernel
theorem printForms_0_2 : printFormsGo 0 2 = true := by decide +kernel
theorem printForms_0_3 : printFormsGo 0 3 = true := by decide +kernel
theorem printForms_0_4 : printFormsGo 0 4 = true := by decide +kernel
theorem printForms_0_5 : printFormsGo 0 5 = true := by decide +kernel
theorem printForms_0_6 : printFormsGo 0 6 = true := by decide +kernel
theorem printForms_0_7 : printFormsGo 0 7 = true := by decide +kernel
end Go.Proofs.YtkaegfgaemnemaaDoor.Fin
