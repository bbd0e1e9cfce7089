/- Cases of the law PrintForms, each run in the kernel. -/
import Derived.Test.YtkaegfgaemnemaaDoorFinPrintFormsB
namespace Go.Proofs.YtkaegfgaemnemaaDoor.Fin
open Go.Proofs.YtkaegfgaemnemaaDoor.Fast Go.RowKit
set_option linter.unusedVariables false
set_option maxRecDepth 1000000
theorem printForms_3_8 : printFormsGo 3 8 = true := by decide +kernel
theorem printForms_3_9 : printFormsGo 3 9 = true := by decide +kernel
theorem printForms_3_10 : printFormsGo 3 10 = true := by decide +kernel
theorem printForms_3_11 : printFormsGo 3 11 = true := by decide +kernel
theorem printForms_3_12 : printFormsGo 3 12 = true := by decide +kernel
theorem printForms_3_13 : printFormsGo 3 13 = true := by decide +kernel
theorem printForms_3_14 : printFormsGo 3 14 = true := by decide +kernel
theorem printForms_3_15 : printFormsGo 3 15 = true := by decide +kernel
end Go.Proofs.YtkaegfgaemnemaaDoor.Fin
