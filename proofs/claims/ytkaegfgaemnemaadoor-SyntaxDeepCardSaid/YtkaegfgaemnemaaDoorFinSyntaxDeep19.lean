/- Cases of the law SyntaxDeep, each run in the kernel. -/
import Derived.Test.YtkaegfgaemnemaaDoorFinSyntaxDeepB
namespace Go.Proofs.YtkaegfgaemnemaaDoor.Fin
open Go.Proofs.YtkaegfgaemnemaaDoor.Fast Go.RowKit
set_option linter.unusedVariables false
set_option maxRecDepth 1000000
theorem syntaxDeep_57_true : syntaxDeepGo 57 true = true := by decide +kernel
theorem syntaxDeep_57_false : syntaxDeepGo 57 false = true := by decide +kernel
theorem syntaxDeep_58_true : syntaxDeepGo 58 true = true := by decide +kernel
theorem syntaxDeep_58_false : syntaxDeepGo 58 false = true := by decide +kernel
theorem syntaxDeep_59_true : syntaxDeepGo 59 true = true := by decide +kernel
theorem syntaxDeep_59_false : syntaxDeepGo 59 false = true := by decide +kernel
end Go.Proofs.YtkaegfgaemnemaaDoor.Fin
