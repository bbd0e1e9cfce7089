/- Cases of the law SyntaxDeep, each run in the kernel. -/
import Derived.Test.YtkaegfgaemnemaaDoorFinSyntaxDeepB
namespace Go.Proofs.YtkaegfgaemnemaaDoor.Fin
open Go.Proofs.YtkaegfgaemnemaaDoor.Fast Go.RowKit
set_option linter.unusedVariables false
set_option maxRecDepth 1000000
theorem syntaxDeep_36_true : syntaxDeepGo 36 true = true := by decide +kernel
theorem syntaxDeep_36_false : syntaxDeepGo 36 false = true := by decide +kernel
theorem syntaxDeep_37_true : syntaxDeepGo 37 true = true := by decide +kernel
theorem syntaxDeep_37_false : syntaxDeepGo 37 false = true := by decide +kernel
theorem syntaxDeep_38_true : syntaxDeepGo 38 true = true := by decide +kernel
theorem syntaxDeep_38_false : syntaxDeepGo 38 false = true := by decide +kernel
end Go.Proofs.YtkaegfgaemnemaaDoor.Fin
