/- Cases of the law PrintForms, each run in the kernel. -/
import Derived.Test.YtkaegfgaemnemaaDoorFinPrintFormsB
namespace Go.Proofs.YtkaegfgaemnemaaDoor.Fin
open Go.Proofs.YtkaegfgaemnemaaDoor.Fast Go.RowKit
set_option linter.unusedVariables false
set_option maxRecDepth 1000000
theorem printForms_4_0 : printFormsGo 4 0 = true := by decide +kernel
theorem printForms_4_1 : printFormsGo 4 1 = true := by decide +kernel
theorem printForms_4_2 : printFormsGo 4 2 = true := by decide +kernel
theorem printForms_4_3 : printFormsGo 4 3 = true := by decide +kernel
theorem printForms_4_4 : printFormsGo 4 4 = true := by decide +kernel
theorem printForms_4_5 : printFormsGo 4 5 = true := by decide +kernel
theorem printForms_4_6 : printFormsGo 4 6 = true := by decide +kernel
theorem printForms_4_7 : printFormsGo 4 7 = true := by decide +kernel
end Go.Proofs.YtkaegfgaemnemaaDoor.Fin
