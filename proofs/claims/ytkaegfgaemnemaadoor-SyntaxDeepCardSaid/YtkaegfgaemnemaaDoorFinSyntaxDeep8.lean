/- Cases of the law SyntaxDeep, each run in the kernel. -/
import Derived.Test.YtkaegfgaemnemaaDoorFinSyntaxDeepB
namespace Go.Proofs.YtkaegfgaemnemaaDoor.Fin
open Go.Proofs.YtkaegfgaemnemaaDoor.Fast Go.RowKit
set_option linter.unusedVariables false
set_option maxRecDepth 1000000
theorem syntaxDeep_24_true : syntaxDeepGo 24 true = true := by decide +kernel
theorem syntaxDeep_24_false : syntaxDeepGo 24 false = true := by decide +kernel
theorem syntaxDeep_25_true : syntaxDeepGo 25 true = true := by decide +kernel
theorem syntaxDeep_25_false : syntaxDeepGo 25 false = true := by decide +kernel
theorem syntaxDeep_26_true : syntaxDeepGo 26 true = true := by decide +kernel
theorem syntaxDeep_26_false : syntaxDeepGo 26 false = true := by decide +kernel
end Go.Proofs.YtkaegfgaemnemaaDoor.Fin
