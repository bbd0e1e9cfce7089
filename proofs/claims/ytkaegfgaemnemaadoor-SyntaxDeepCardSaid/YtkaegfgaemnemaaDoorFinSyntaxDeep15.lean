/- Cases of the law SyntaxDeep, each run in the kernel. -/
import Derived.Test.YtkaegfgaemnemaaDoorFinSyntaxDeepB
namespace Go.Proofs.YtkaegfgaemnemaaDoor.Fin
open Go.Proofs.YtkaegfgaemnemaaDoor.Fast Go.RowKit
set_option linter.unusedVariables false
set_option maxRecDepth 1000000
theorem syntaxDeep_45_true : syntaxDeepGo 45 true = true := by decide +kernel
theorem syntaxDeep_45_false : syntaxDeepGo 45 false = true := by decide +kernel
theorem syntaxDeep_46_true : syntaxDeepGo 46 true = true := by decide +kernel
theorem syntaxDeep_46_false : syntaxDeepGo 46 false = true := by decide +kernel
theorem syntaxDeep_47_true : syntaxDeepGo 47 true = true := by decide +kernel
theorem syntaxDeep_47_false : syntaxDeepGo 47 false = true := by decide +kernel
end Go.Proofs.YtkaegfgaemnemaaDoor.Fin
