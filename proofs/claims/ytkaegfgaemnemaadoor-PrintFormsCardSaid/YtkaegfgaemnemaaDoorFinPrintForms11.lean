/- Cases of the law PrintForms, each run in the kernel. -/
import Derived.Test.YtkaegfgaemnemaaDoorFinPrintFormsB
namespace Go.Proofs.YtkaegfgaemnemaaDoor.Fin
open Go.Proofs.YtkaegfgaemnemaaDoor.Fast Go.RowKit
set_option linter.unusedVariables false
set_option maxRecDepth 1000000
theorem printForms_5_8 : printFormsGo 5 8 = true := by decide +kernel
theorem printForms_5_9 : printFormsGo 5 9 = true := by decide +kernel
theorem printForms_5_10 : printFormsGo 5 10 = true := by decide +kernel
theorem printForms_5_11 : printFormsGo 5 11 = true := by decide +kernel
theorem printForms_5_12 : printFormsGo 5 12 = true := by decide +kernel
theorem printForms_5_13 : printFormsGo 5 13 = true := by decide +kernel
theorem printForms_5_14 : printFormsGo 5 14 = true := by decide +kernel
theorem printForms_5_15 : printFormsGo 5 15 = true := by decide +kernel
end Go.Proofs.YtkaegfgaemnemaaDoor.Fin
