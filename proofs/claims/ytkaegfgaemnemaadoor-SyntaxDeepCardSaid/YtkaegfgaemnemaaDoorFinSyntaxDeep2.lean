/- Cases of the law SyntaxDeep, each run in the kernel. -/
import Derived.Test.YtkaegfgaemnemaaDoorFinSyntaxDeepB
namespace Go.Proofs.YtkaegfgaemnemaaDoor.Fin
open Go.Proofs.YtkaegfgaemnemaaDoor.Fast Go.RowKit
set_option linter.unusedVariables false
set_option maxRecDepth 1000000
theorem syntaxDeep_6_true : syntaxDeepGo 6 true = true := by decide +kernel
theorem syntaxDeep_6_false : syntaxDeepGo 6 false = true := by decide +kernel
theorem syntaxDeep_7_true : syntaxDeepGo 7 true = true := by decide +kernel
theorem syntaxDeep_7_false : syntaxDeepGo 7 false = true := by decide +kernel
theorem syntaxDeep_8_true : syntaxDeepGo 8 true = true := by decide +kernel
theorem syntaxDeep_8_false : syntaxDeepGo 8 false = true := by decide +kernel
end Go.Proofs.YtkaegfgaemnemaaDoor.Fin
