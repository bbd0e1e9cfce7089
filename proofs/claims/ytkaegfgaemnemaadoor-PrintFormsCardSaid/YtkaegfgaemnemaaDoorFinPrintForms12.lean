/- Cases of the law PrintForms, each run in the kernel. -/
import Derived.Test.YtkaegfgaemnemaaDoorFinPrintFormsB
namespace Go.Proofs.YtkaegfgaemnemaaDoor.Fin
open Go.Proofs.YtkaegfgaemnemaaDoor.Fast Go.RowKit
set_option linter.unusedVariables false
set_option maxRecDepth 1000000
theorem printForms_6_0 : printFormsGo 6 0 = true := by decide +kernel
theorem printForms_6_1 : printFormsGo 6 1 = true := by decide +kernel
theorem printForms_6_2 : printFormsGo 6 2 = true := by decide +kernel
theorem printForms_6_3 : printFormsGo 6 3 = true := by decide +kernel
theorem printForms_6_4 : printFormsGo 6 4 = true := by decide +kernel
theorem printForms_6_5 : printFormsGo 6 5 = true := by decide +kernel
theorem printForms_6_6 : printFormsGo 6 6 = true := by decide +kernel
theorem printForms_6_7 : printFormsGo 6 7 = true := by decide +kernel
end Go.Proofs.YtkaegfgaemnemaaDoor.Fin
