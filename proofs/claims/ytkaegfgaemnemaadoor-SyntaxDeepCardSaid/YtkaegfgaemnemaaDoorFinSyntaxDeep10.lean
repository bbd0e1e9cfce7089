/- Cases of the law SyntaxDeep, each run in the kernel. -/
import Derived.Test.YtkaegfgaemnemaaDoorFinSyntaxDeepB
namespace Go.Proofs.YtkaegfgaemnemaaDoor.Fin
open Go.Proofs.YtkaegfgaemnemaaDoor.Fast Go.RowKit
set_option linter.unusedVariables false
set_option maxRecDepth 1000000
theorem syntaxDeep_30_true : syntaxDeepGo 30 true = true := by decide +kernel
theorem syntaxDeep_30_false : syntaxDeepGo 30 false = true := by decide +kernel
theorem syntaxDeep_31_true : syntaxDeepGo 31 true = true := by decide +kernel
theorem syntaxDeep_31_false : syntaxDeepGo 31 false = true := by decide +kernel
theorem syntaxDeep_32_true : syntaxDeepGo 32 true = true := by decide +kernel
theorem syntaxDeep_32_false : syntaxDeepGo 32 false = true := by decide +kernel
end Go.Proofs.YtkaegfgaemnemaaDoor.Fin
