/- Cases of the law SyntaxDeep, each run in the kernel. -/
import Derived.Test.YtkaegfgaemnemaaDoorFinSyntaxDeepB
namespace Go.Proofs.YtkaegfgaemnemaaDoor.Fin
open Go.Proofs.YtkaegfgaemnemaaDoor.Fast Go.RowKit
set_option linter.unusedVariables false
set_option maxRecDepth 1000000
theorem syntaxDeep_33_true : syntaxDeepGo 33 true = true := by decide +kernel
theorem syntaxDeep_33_false : syntaxDeepGo 33 false = true := by decide +kernel
theorem syntaxDeep_34_true : syntaxDeepGo 34 true = true := by decide +kernel
theorem syntaxDeep_34_false : syntaxDeepGo 34 false = true := by decide +kernel
theorem syntaxDeep_35_true : syntaxDeepGo 35 true = true := by decide +kernel
theorem syntaxDeep_35_false : syntaxDeepGo 35 false = true := by decide +kernel
end Go.Proofs.YtkaegfgaemnemaaDoor.Fin
