/- Cases of the law PrintForms, each run in the kernel. -/
import Derived.Test.YtkaegfgaemnemaaDoorFinPrintFormsB
namespace Go.Proofs.YtkaegfgaemnemaaDoor.Fin
open Go.Proofs.YtkaegfgaemnemaaDoor.Fast Go.RowKit
set_option linter.unusedVariables false
set_option maxRecDepth 1000000
theorem printForms_2_8 : printFormsGo 2 8 = true := by decide +kernel
theorem printForms_2_9 : printFormsGo 2 9 = true := by decide +kernel
theorem printForms_2_10 : printFormsGo 2 10 = true := by decide +kernel
theorem printForms_2_11 : printFormsGo 2 11 = true := by decide +kernel
theorem printForms_2_12 : printFormsGo 2 12 = true := by decide +kernel
theorem printForms_2_13 : printFormsGo 2 13 = true := by decide +kernel
theorem printForms_2_14 : printFormsGo 2 14 = true := by decide +kernel
theorem printForms_2_15 : printFormsGo 2 15 = true := by decide +kernel
end Go.Proofs.YtkaegfgaemnemaaDoor.Fin
