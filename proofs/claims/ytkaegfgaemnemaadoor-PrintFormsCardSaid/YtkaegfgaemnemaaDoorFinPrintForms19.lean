/- Cases of the law PrintForms, each run in the kernel. -/
import Derived.Test.YtkaegfgaemnemaaDoorFinPrintFormsB
namespace Go.Proofs.YtkaegfgaemnemaaDoor.Fin
open Go.Proofs.YtkaegfgaemnemaaDoor.Fast Go.RowKit
set_option linter.unusedVariables false
set_option maxRecDepth 1000000
theorem printForms_9_8 : printFormsGo 9 8 = true := by decide +kernel
theorem printForms_9_9 : printFormsGo 9 9 = true := by decide +kernel
theorem printForms_9_10 : printFormsGo 9 10 = true := by decide +kernel
theorem printForms_9_11 : printFormsGo 9 11 = true := by decide +kernel
theorem printForms_9_12 : printFormsGo 9 12 = true := by decide +kernel
theorem printForms_9_13 : printFormsGo 9 13 = true := by decide +kernel
theorem printForms_9_14 : printFormsGo 9 14 = true := by decide +kernel
theorem printForms_9_15 : printFormsGo 9 15 = true := by decide +kernel
end Go.Proofs.YtkaegfgaemnemaaDoor.Fin
