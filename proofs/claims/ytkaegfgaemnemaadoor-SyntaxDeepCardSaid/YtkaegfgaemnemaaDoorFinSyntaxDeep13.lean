/- Cases of the law SyntaxDeep, each run in the kernel. -/
import Derived.Test.YtkaegfgaemnemaaDoorFinSyntaxDeepB
namespace Go.Proofs.YtkaegfgaemnemaaDoor.Fin
open Go.Proofs.YtkaegfgaemnemaaDoor.Fast Go.RowKit
set_option linter.unusedVariables false
set_option maxRecDepth 1000000
theorem syntaxDeep_39_true : syntaxDeepGo 39 true = true := by decide +kernel
theorem syntaxDeep_39_false : syntaxDeepGo 39 false = true := by decide +kernel
theorem syntaxDeep_40_true : syntaxDeepGo 40 true = true := by decide +kernel
theorem syntaxDeep_40_false : syntaxDeepGo 40 false = true := by decide +kernel
theorem syntaxDeep_41_true : syntaxDeepGo 41 true = true := by decide +kernel
theorem syntaxDeep_41_false : syntaxDeepGo 41 false = true := by decide +kernel
end Go.Proofs.YtkaegfgaemnemaaDoor.Fin
