/- Cases of the law SyntaxDeep, each run in the kernel. -/
import Derived.Test.YtkaegfgaemnemaaDoorFinSyntaxDeepB
namespace Go.Proofs.YtkaegfgaemnemaaDoor.Fin
open Go.Proofs.YtkaegfgaemnemaaDoor.Fast Go.RowKit
set_option linter.unusedVariables false
set_option maxRecDepth 1000000
theorem syntaxDeep_21_true : syntaxDeepGo 21 true = true := by decide +kernel
theorem syntaxDeep_21_false : syntaxDeepGo 21 false = true := by decide +kernel
theorem syntaxDeep_22_true : syntaxDeepGo 22 true = true := by decide +kernel
theorem syntaxDeep_22_false : syntaxDeepGo 22 false = true := by decide +kernel
theorem syntaxDeep_23_true : syntaxDeepGo 23 true = true := by decide +kernel
theorem syntaxDeep_23_false : syntaxDeepGo 23 false = true := by decide +kernel
end Go.Proofs.YtkaegfgaemnemaaDoor.Fin
