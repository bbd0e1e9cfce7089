/- Cases of the law PrintForms, each run in the kernel. -/
import Derived.Test.YtkaegfgaemnemaaDoorFinPrintFormsB
namespace Go.Proofs.YtkaegfgaemnemaaDoor.Fin
open Go.Proofs.YtkaegfgaemnemaaDoor.Fast Go.RowKit
set_option linter.unusedVariables false
set_option maxRecDepth 1000000
theorem printForms_9_0 : printFormsGo 9 0 = true := by decide +kernel
theorem printForms_9_1 : printFormsGo 9 1 = true := by decide +kernel
theorem printForms_9_2 : printFormsGo 9 2 = true := by decide +kernel
theorem printForms_9_3 : printFormsGo 9 3 = true := by decide +kernel
theorem printForms_9_4 : printFormsGo 9 4 = true := by decide +kernel
theorem printForms_9_5 : printFormsGo 9 5 = true := by decide +kernel
theorem printForms_9_6 : printFormsGo 9 6 = true := by decide +kernel
theorem printForms_9_7 : printFormsGo 9 7 = true := by decide +kernel
end Go.Proofs.YtkaegfgaemnemaaDoor.Fin
