/- Cases of the law PrintForms, each run in the kernel. -/
import Derived.Test.YtkaegfgaemnemaaDoorFinPrintFormsB
namespace Go.Proofs.YtkaegfgaemnemaaDoor.Fin
open Go.Proofs.YtkaegfgaemnemaaDoor.Fast Go.RowKit
set_option linter.unusedVariables false
set_option maxRecDepth 1000000
theorem printForms_0_8 : printFormsGo 0 8 = true := by decide +kernel
theorem printForms_0_9 : printFormsGo 0 9 = true := by decide +kernel
theorem printForms_0_10 : printFormsGo 0 10 = true := by decide +kernel
theorem printForms_0_11 : printFormsGo 0 11 = true := by decide +kernel
theorem printForms_0_12 : printFormsGo 0 12 = true := by decide +kernel
theorem printForms_0_13 : printFormsGo 0 13 = true := by decide +kernel
theorem printForms_0_14 : printFormsGo 0 14 = true := by decide +kernel
theorem printForms_0_15 : printFormsGo 0 15 = true := by decide +kernel
end Go.Proofs.YtkaegfgaemnemaaDoor.Fin
