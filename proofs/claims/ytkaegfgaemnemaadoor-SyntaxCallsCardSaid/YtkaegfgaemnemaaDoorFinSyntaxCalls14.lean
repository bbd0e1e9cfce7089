/- Cases of the law SyntaxCalls, each run in the kernel. -/
import Derived.Test.YtkaegfgaemnemaaDoorFinSyntaxCallsB
namespace Go.Proofs.YtkaegfgaemnemaaDoor.Fin
open Go.Proofs.YtkaegfgaemnemaaDoor.Fast Go.RowKit
set_option linter.unusedVariables false
set_option maxRecDepth 1000000
theorem syntaxCalls_7_0_true : syntaxCallsGo 7 0 true = true := by decide +kernel
theorem syntaxCalls_7_0_false : syntaxCallsGo 7 0 false = true := by decide +kernel
theorem syntaxCalls_7_1_true : syntaxCallsGo 7 1 true = true := by decide +kernel
theorem syntaxCalls_7_1_false : syntaxCallsGo 7 1 false = true := by decide +kernel
theorem syntaxCalls_7_2_true : syntaxCallsGo 7 2 true = true := by decide +kernel
theorem syntaxCalls_7_2_false : syntaxCallsGo 7 2 false = true := by decide +kernel
theorem syntaxCalls_7_3_true : syntaxCallsGo 7 3 true = true := by decide +kernel
theorem syntaxCalls_7_3_false : syntaxCallsGo 7 3 false = true := by decide +kernel
end Go.Proofs.YtkaegfgaemnemaaDoor.Fin
