/- Cases of the law PrintForms, each run in the kernel. -/
import Derived.Test.YtkaegfgaemnemaaDoorFinPrintFormsB
namespace Go.Proofs.YtkaegfgaemnemaaDoor.Fin
open Go.Proofs.YtkaegfgaemnemaaDoor.Fast Go.RowKit
set_option linter.unusedVariables false
set_option maxRecDepth 1000000
theorem printForms_6_8 : printFormsGo 6 8 = true := by decide +kernel
theorem printForms_6_9 : printFormsGo 6 9 = true := by decide +kernel
theorem printForms_6_10 : printFormsGo 6 10 = true := by decide +kernel
theorem printForms_6_11 : printFormsGo 6 11 = true := by decide +kernel
theorem printForms_6_12 : printFormsGo 6 12 = true := by decide +kernel
theorem printForms_6_13 : printFormsGo 6 13 = true := by decide +kernel
theorem printForms_6_14 : printFormsGo 6 14 = true := by decide +kernel
theorem printForms_6_15 : printFormsGo 6 15 = true := by decide +kernel
end Go.Proofs.YtkaegfgaemnemaaDoor.Fin
