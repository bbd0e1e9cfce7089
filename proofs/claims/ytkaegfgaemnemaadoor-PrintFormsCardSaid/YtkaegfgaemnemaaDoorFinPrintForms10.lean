/- Cases of the law PrintForms, each run in the kernel. -/
import Derived.Test.YtkaegfgaemnemaaDoorFinPrintFormsB
namespace Go.Proofs.YtkaegfgaemnemaaDoor.Fin
open Go.Proofs.YtkaegfgaemnemaaDoor.Fast Go.RowKit
set_option linter.unusedVariables false
set_option maxRecDepth 1000000
theorem printForms_5_0 : printFormsGo 5 0 = true := by decide +kernel
theorem printForms_5_1 : printFormsGo 5 1 = true := by decide +kernel
theorem printForms_5_2 : printFormsGo 5 2 = true := by decide +kernel
theorem printForms_5_3 : printFormsGo 5 3 = true := by decide +kernel
theorem printForms_5_4 : printFormsGo 5 4 = true := by decide +kernel
theorem printForms_5_5 : printFormsGo 5 5 = true := by decide +kernel
theorem printForms_5_6 : printFormsGo 5 6 = true := by decide +kernel
theorem printForms_5_7 : printFormsGo 5 7 = true := by decide +kernel
end Go.Proofs.YtkaegfgaemnemaaDoor.Fin
