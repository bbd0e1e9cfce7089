/- Cases of the law PrintForms, each run in the kernel. -/
import Derived.Test.YtkaegfgaemnemaaDoorFinPrintFormsB
namespace Go.Proofs.YtkaegfgaemnemaaDoor.Fin
open Go.Proofs.YtkaegfgaemnemaaDoor.Fast Go.RowKit
set_option linter.unusedVariables false
set_option maxRecDepth 1000000
theorem printForms_7_8 : printFormsGo 7 8 = true := by decide +kernel
theorem printForms_7_9 : printFormsGo 7 9 = true := by decide +kernel
theorem printForms_7_10 : printFormsGo 7 10 = true := by decide +kernel
theorem printForms_7_11 : printFormsGo 7 11 = true := by decide +kernel
theorem printForms_7_12 : printFormsGo 7 12 = true := by decide +kernel
theorem printForms_7_13 : printFormsGo 7 13 = true := by decide +kernel
theorem printForms_7_14 : printFormsGo 7 14 = true := by decide +kernel
theorem printForms_7_15 : printFormsGo 7 15 = true := by decide +kernel
end Go.Proofs.YtkaegfgaemnemaaDoor.Fin
