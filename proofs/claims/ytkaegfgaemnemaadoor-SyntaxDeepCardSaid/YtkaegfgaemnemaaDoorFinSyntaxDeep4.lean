/- Cases of the law SyntaxDeep, each run in the kernel. -/
import Derived.Test.YtkaegfgaemnemaaDoorFinSyntaxDeepB
namespace Go.Proofs.YtkaegfgaemnemaaDoor.Fin
open Go.Proofs.YtkaegfgaemnemaaDoor.Fast Go.RowKit
set_option linter.unusedVariables false
set_option maxRecDepth 1000000
theorem syntaxDeep_12_true : syntaxDeepGo 12 true = true := by decide +kernel
theorem syntaxDeep_12_false : syntaxDeepGo 12 false = true := by decide +kernel
theorem syntaxDeep_13_true : syntaxDeepGo 13 true = true := by decide +kernel
theorem syntaxDeep_13_false : syntaxDeepGo 13 false = true := by decide +kernel
theorem syntaxDeep_14_true : syntaxDeepGo 14 true = true := by decide +kernel
theorem syntaxDeep_14_false : syntaxDeepGo 14 false = true := by decide +kernel
end Go.Proofs.YtkaegfgaemnemaaDoor.Fin
