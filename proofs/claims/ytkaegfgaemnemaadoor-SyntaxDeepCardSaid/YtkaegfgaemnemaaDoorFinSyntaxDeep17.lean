/- Cases of the law SyntaxDeep, each run in the kernel. -/
import Derived.Test.YtkaegfgaemnemaaDoorFinSyntaxDeepB
namespace Go.Proofs.YtkaegfgaemnemaaDoor.Fin
open Go.Proofs.YtkaegfgaemnemaaDoor.Fast Go.RowKit
set_option linter.unusedVariables false
set_option maxRecDepth 1000000
theorem syntaxDeep_51_true : syntaxDeepGo 51 true = true := by decide +kernel
theorem syntaxDeep_51_false : syntaxDeepGo 51 false = true := by decide +kernel
theorem syntaxDeep_52_true : syntaxDeepGo 52 true = true := by decide +kernel
theorem syntaxDeep_52_false : syntaxDeepGo 52 false = true := by decide +kernel
theorem syntaxDeep_53_true : syntaxDeepGo 53 true = true := by decide +kernel
theorem syntaxDeep_53_false : syntaxDeepGo 53 false = true := by decide +kernel
end Go.Proofs.YtkaegfgaemnemaaDoor.Fin
