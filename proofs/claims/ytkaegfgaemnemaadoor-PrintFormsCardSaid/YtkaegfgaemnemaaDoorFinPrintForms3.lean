/- Cases of the law PrintForms, each run in the kernel. -/
import Derived.Test.YtkaegfgaemnemaaDoorFinPrintFormsB
namespace Go.Proofs.YtkaegfgaemnemaaDoor.Fin
open Go.Proofs.YtkaegfgaemnemaaDoor.Fast Go.RowKit
set_option linter.unusedVariables false
set_option maxRecDepth 1000000
theorem printForms_1_8 : printFormsGo 1 8 = true := by decide +kernel
theorem printForms_1_9 : printFormsGo 1 9 = true := by decide +kernel
theorem printForms_1_10 : printFormsGo 1 10 = true := by decide +kernel
theorem printForms_1_11 : printFormsGo 1 11 = true := by decide +kernel
theorem printForms_1_12 : printFormsGo 1 12 = true := by decide +kernel
theorem printForms_1_13 : printFormsGo 1 13 = true := by decide +kernel
theorem printForms_1_14 : printFormsGo 1 14 = true := by decide +kernel
theorem printForms_1_15 : printFormsGo 1 15 = true := by decide +kernel
end Go.Proofs.YtkaegfgaemnemaaDoor.Fin
