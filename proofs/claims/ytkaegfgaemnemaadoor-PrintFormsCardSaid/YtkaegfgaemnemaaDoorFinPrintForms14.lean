/- Cases of the law PrintForms, each run in the kernel. -/
import Derived.Test.YtkaegfgaemnemaaDoorFinPrintFormsB
namespace Go.Proofs.YtkaegfgaemnemaaDoor.Fin
open Go.Proofs.YtkaegfgaemnemaaDoor.Fast Go.RowKit
set_option linter.unusedVariables false
set_option maxRecDepth 1000000
theorem printForms_7_0 : printFormsGo 7 0 = true := by decide +kernel
theorem printForms_7_1 : printFormsGo 7 1 = true := by decide +kernel
theorem printForms_7_2 : printFormsGo 7 2 = true := by decide +kernel
theorem printForms_7_3 : printFormsGo 7 3 = true := by decide +kernel
theorem printForms_7_4 : printFormsGo 7 4 = true := by decide +kernel
theorem printForms_7_5 : printFormsGo 7 5 = true := by decide +kernel
theorem printForms_7_6 : printFormsGo 7 6 = true := by decide +kernel
theorem printForms_7_7 : printFormsGo 7 7 = true := by decide +kernel
end Go.Proofs.YtkaegfgaemnemaaDoor.Fin
