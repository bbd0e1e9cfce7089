/- Cases of the law SyntaxDeep, each run in the kernel. -/
import Derived.Test.YtkaegfgaemnemaaDoorFinSyntaxDeepB
namespace Go.Proofs.YtkaegfgaemnemaaDoor.Fin
open Go.Proofs.YtkaegfgaemnemaaDoor.Fast Go.RowKit
set_option linter.unusedVariables false
set_option maxRecDepth 1000000
theorem syntaxDeep_9_true : syntaxDeepGo 9 true = true := by decide +kernel
theorem syntaxDeep_9_false : syntaxDeepGo 9 false = true := by decide +kernel
theorem syntaxDeep_10_true : syntaxDeepGo 10 true = true := by decide +kernel
theorem syntaxDeep_10_false : syntaxDeepGo 10 false = true := by decide +kernel
theorem syntaxDeep_11_true : syntaxDeepGo 11 true = true := by decide +kernel
theorem syntaxDeep_11_false : syntaxDeepGo 11 false = true := by decide +kernel
end Go.Proofs.YtkaegfgaemnemaaDoor.Fin
