/- Cases of the law SyntaxDeep, each run in the kernel. -/
import Derived.Test.YtkaegfgaemnemaaDoorFinSyntaxDeepB
namespace Go.Proofs.YtkaegfgaemnemaaDoor.Fin
open Go.Proofs.YtkaegfgaemnemaaDoor.Fast Go.RowKit
set_option linter.unusedVariables false
set_option maxRecDepth 1000000
theorem syntaxDeep_3_true : syntaxDeepGo 3 true = true := by decide +kernel
theorem syntaxDeep_3_false : syntaxDeepGo 3 false = true := by decide +kernel
theorem syntaxDeep_4_true : syntaxDeepGo 4 true = true := by decide +kernel
theorem syntaxDeep_4_false : syntaxDeepGo 4 false = true := by decide +kernel
theorem syntaxDeep_5_true : syntaxDeepGo 5 true = true := by decide +kernel
theorem syntaxDeep_5_false : syntaxDeepGo 5 false = true := by decide +kernel
end Go.Proofs.YtkaegfgaemnemaaDoor.Fin
