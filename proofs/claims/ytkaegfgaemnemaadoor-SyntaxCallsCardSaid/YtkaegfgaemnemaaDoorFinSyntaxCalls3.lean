/- Cases of the law SyntaxCalls, each run in the kernel. -/
import Derived.Test.YtkaegfgaemnemaaDoorFinSyntaxCallsB
namespace Go.Proofs.YtkaegfgaemnemaaDoor.Fin
open Go.Proofs.YtkaegfgaemnemaaDoor.Fast Go.RowKit
set_option linter.unusedVariables false
set_option maxRecDepth 1000000
theorem syntaxCalls_1_4_true : syntaxCallsGo 1 4 true = true := by decide +kernel
theorem syntaxCalls_1_4_false : syntaxCallsGo 1 4 false = true := by decide +kernel
theorem syntaxCalls_1_5_true : syntaxCallsGo 1 5 true = true := by decide +kernel
theorem syntaxCalls_1_5_false : syntaxCallsGo 1 5 false = true := by decide +kernel
theorem syntaxCalls_1_6_true : syntaxCallsGo 1 6 true = true := by decide +kernel
theorem syntaxCalls_1_6_false : syntaxCallsGo 1 6 false = true := by decide +kernel
theorem syntaxCalls_1_7_true : syntaxCallsGo 1 7 true = true := by decide +kernel
theorem syntaxCalls_1_7_false : syntaxCallsGo 1 7 false = true := by decide +kernel
end Go.Proofs.YtkaegfgaemnemaaDoor.Fin
