/- Cases of the law PrintForms, each run in the kernel. -/
import Derived.Test.YtkaegfgaemnemaaDoorFinPrintFormsB
namespace Go.Proofs.YtkaegfgaemnemaaDoor.Fin
open Go.Proofs.YtkaegfgaemnemaaDoor.Fast Go.RowKit
set_option linter.unusedVariables false
set_option maxRecDepth 1000000
theorem printForms_4_8 : printFormsGo 4 8 = true := by decide +kernel
theorem printForms_4_9 : printFormsGo 4 9 = true := by decide +kernel
theorem printForms_4_10 : printFormsGo 4 10 = true := by decide +kernel
theorem printForms_4_11 : printFormsGo 4 11 = true := by decide +kernel
theorem printForms_4_12 : printFormsGo 4 12 = true := by decide +kernel
theorem printForms_4_13 : printFormsGo 4 13 = true := by decide +kernel
theorem printForms_4_14 : printFormsGo 4 14 = true := by decide +kernel
theorem printForms_4_15 : printFormsGo 4 15 = true := by decide +kernel
end Go.Proofs.YtkaegfgaemnemaaDoor.Fin
