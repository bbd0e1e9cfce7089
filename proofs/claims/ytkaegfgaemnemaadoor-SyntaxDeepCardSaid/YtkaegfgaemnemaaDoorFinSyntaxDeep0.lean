/- Cases of the law SyntaxDeep, each run in the kernel. -/
import Derived.Test.YtkaegfgaemnemaaDoorFinSyntaxDeepB
namespace Go.Proofs.YtkaegfgaemnemaaDoor.Fin
open Go.Proofs.YtkaegfgaemnemaaDoor.Fast Go.RowKit
set_option linter.unusedVariables false
set_option maxRecDepth 1000000
theorem syntaxDeep_0_true : syntaxDeepGo 0 true = true := by decide +kernel
theorem syntaxDeep_0_false : syntaxDeepGo 0 false = true := by decide +kernel
theorem syntaxDeep_1_true : syntaxDeepGo 1 true = true := by decide +kernel
theorem syntaxDeep_1_false : syntaxDeepGo 1 false = true := by decide +kernel
theorem syntaxDeep_2_true : syntaxDeepGo 2 true = true := by decide +kernel
theorem syntaxDeep_2_false : syntaxDeepGo 2 false = true := by decide +kernel
end Go.Proofs.YtkaegfgaemnemaaDoor.Fin
