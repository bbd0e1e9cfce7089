/- Cases of the law PrintForms, each run in the kernel. -/
import Derived.Test.YtkaegfgaemnemaaDoorFinPrintFormsB
namespace Go.Proofs.YtkaegfgaemnemaaDoor.Fin
open Go.Proofs.YtkaegfgaemnemaaDoor.Fast Go.RowKit
set_option linter.unusedVariables false
set_option maxRecDepth 1000000
theorem printForms_8_8 : printFormsGo 8 8 = true := by decide +kernel
theorem printForms_8_9 : printFormsGo 8 9 = true := by decide +kernel
theorem printForms_8_10 : printFormsGo 8 10 = true := by decide +kernel
theorem printForms_8_11 : printFormsGo 8 11 = true := by decide +kernel
theorem printForms_8_12 : printFormsGo 8 12 = true := by decide +kernel
theorem printForms_8_13 : printFormsGo 8 13 = true := by decide +kernel
theorem printForms_8_14 : printFormsGo 8 14 = true := by decide +kernel
theorem printForms_8_15 : printFormsGo 8 15 = true := by decide +kernel
end Go.Proofs.YtkaegfgaemnemaaDoor.Fin
