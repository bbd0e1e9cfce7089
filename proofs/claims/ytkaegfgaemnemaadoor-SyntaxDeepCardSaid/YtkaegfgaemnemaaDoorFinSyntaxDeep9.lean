/- Cases of the law SyntaxDeep, each run in the kernel. -/
import Derived.Test.YtkaegfgaemnemaaDoorFinSyntaxDeepB
namespace Go.Proofs.YtkaegfgaemnemaaDoor.Fin
open Go.Proofs.YtkaegfgaemnemaaDoor.Fast Go.RowKit
set_option linter.unusedVariables false
set_option maxRecDepth 1000000
theorem syntaxDeep_27_true : syntaxDeepGo 27 true = true := by decide +kernel
theorem syntaxDeep_27_false : syntaxDeepGo 27 false = true := by decide +kernel
theorem syntaxDeep_28_true : syntaxDeepGo 28 true = true := by decide +kernel
theorem syntaxDeep_28_false : syntaxDeepGo 28 false = true := by decide +kernel
theorem syntaxDeep_29_true : syntaxDeepGo 29 true = true := by decide +kernel
theorem syntaxDeep_29_false : syntaxDeepGo 29 false = true := by decide +kernel
end Go.Proofs.YtkaegfgaemnemaaDoor.Fin
