/- Cases of the law SyntaxDeep, each run in the kernel. -/
import Derived.Test.YtkaegfgaemnemaaDoorFinSyntaxDeepB
namespace Go.Proofs.YtkaegfgaemnemaaDoor.Fin
open Go.Proofs.YtkaegfgaemnemaaDoor.Fast Go.RowKit
set_option linter.unusedVariables false
set_option maxRecDepth 1000000
theorem syntaxDeep_48_true : syntaxDeepGo 48 true = true := by decide +kernel
theorem syntaxDeep_48_false : syntaxDeepGo 48 false = true := by decide +kernel
theorem syntaxDeep_49_true : syntaxDeepGo 49 true = true := by decide +kernel
theorem syntaxDeep_49_false : syntaxDeepGo 49 false = true := by decide +kernel
theorem syntaxDeep_50_true : syntaxDeepGo 50 true = true := by decide +kernel
theorem syntaxDeep_50_false : syntaxDeepGo 50 false = true := by decide +kernel
end Go.Proofs.YtkaegfgaemnemaaDoor.Fin
