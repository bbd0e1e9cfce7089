/- Cases of the law SyntaxDeep, each run in the kernel. -/
import Derived.Test.YtkaegfgaemnemaaDoorFinSyntaxDeepB
namespace Go.Proofs.YtkaegfgaemnemaaDoor.Fin
open Go.Proofs.YtkaegfgaemnemaaDoor.Fast Go.RowKit
set_option linter.unusedVariables false
set_option maxRecDepth 1000000
theorem syntaxDeep_15_true : syntaxDeepGo 15 true = true := by decide +kernel
theorem syntaxDeep_15_false : syntaxDeepGo 15 false = true := by decide +kernel
theorem syntaxDeep_16_true : syntaxDeepGo 16 true = true := by decide +kernel
theorem syntaxDeep_16_false : syntaxDeepGo 16 false = true := by decide +kernel
theorem syntaxDeep_17_true : syntaxDeepGo 17 true = true := by decide +kernel
theorem syntaxDeep_17_false : syntaxDeepGo 17 false = true := by decide +kernel
end Go.Proofs.YtkaegfgaemnemaaDoor.Fin
