/- Cases of the law SyntaxDeep, each run in the kernel. -/
import Derived.Test.YtkaegfgaemnemaaDoorFinSyntaxDeepB
namespace Go.Proofs.YtkaegfgaemnemaaDoor.Fin
open Go.Proofs.YtkaegfgaemnemaaDoor.Fast Go.RowKit
set_option linter.unusedVariables false
set_option maxRecDepth 1000000
theorem syntaxDeep_18_true : syntaxDeepGo 18 true = true := by decide +kernel
theorem syntaxDeep_18_false : syntaxDeepGo 18 false = true := by decide +kernel
theorem syntaxDeep_19_true : syntaxDeepGo 19 true = true := by decide +kernel
theorem syntaxDeep_19_false : syntaxDeepGo 19 false = true := by decide +kernel
theorem syntaxDeep_20_true : syntaxDeepGo 20 true = true := by decide +kernel
theorem syntaxDeep_20_false : syntaxDeepGo 20 false = true := by decide +kernel
end Go.Proofs.YtkaegfgaemnemaaDoor.Fin
