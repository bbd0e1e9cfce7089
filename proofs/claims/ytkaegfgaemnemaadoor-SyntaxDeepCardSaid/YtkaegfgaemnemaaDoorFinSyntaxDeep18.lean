/- Cases of the law SyntaxDeep, each run in the kernel. -/
import Derived.Test.YtkaegfgaemnemaaDoorFinSyntaxDeepB
namespace Go.Proofs.YtkaegfgaemnemaaDoor.Fin
open Go.Proofs.YtkaegfgaemnemaaDoor.Fast Go.RowKit
set_option linter.unusedVariables false
set_option maxRecDepth 1000000
theorem syntaxDeep_54_true : syntaxDeepGo 54 true = true := by decide +kernel
theorem syntaxDeep_54_false : syntaxDeepGo 54 false = true := by decide +kernel
theorem syntaxDeep_55_true : syntaxDeepGo 55 true = true := by decide +kernel
theorem syntaxDeep_55_false : syntaxDeepGo 55 false = true := by decide +kernel
theorem syntaxDeep_56_true : syntaxDeepGo 56 true = true := by decide +kernel
theorem syntaxDeep_56_false : syntaxDeepGo 56 false = true := by decide +kernel
end Go.Proofs.YtkaegfgaemnemaaDoor.Fin
