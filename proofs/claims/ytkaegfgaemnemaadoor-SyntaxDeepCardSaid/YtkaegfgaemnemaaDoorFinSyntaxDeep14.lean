/- Cases of the law SyntaxDeep, each run in the kernel. -/
import Derived.Test.YtkaegfgaemnemaaDoorFinSyntaxDeepB
namespace Go.Proofs.YtkaegfgaemnemaaDoor.Fin
open Go.Proofs.YtkaegfgaemnemaaDoor.Fast Go.RowKit
set_option linter.unusedVariables false
set_option maxRecDepth 1000000
theorem syntaxDeep_42_true : syntaxDeepGo 42 true = true := by decide +kernel
theorem syntaxDeep_42_false : syntaxDeepGo 42 false = true := by decide +kernel
theorem syntaxDeep_43_true : syntaxDeepGo 43 true = true := by decide +kernel
theorem syntaxDeep_43_false : syntaxDeepGo 43 false = true := by decide +kernel
theorem syntaxDeep_44_true : syntaxDeepGo 44 true = true := by decide +kernel
theorem syntaxDeep_44_false : syntaxDeepGo 44 false = true := by decide +kernel
end Go.Proofs.YtkaegfgaemnemaaDoor.Fin
