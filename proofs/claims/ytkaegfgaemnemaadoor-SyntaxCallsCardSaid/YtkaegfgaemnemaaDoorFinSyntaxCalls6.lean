/- Cases of the law SyntaxCalls, each run in the kernel. -/
import Derived.Test.YtkaegfgaemnemaaDoorFinSyntaxCallsB
namespace Go.Proofs.YtkaegfgaemnemaaDoor.Fin
open Go.Proofs.YtkaegfgaemnemaaDoor.Fast Go.RowKit
set_option linter.unusedVariables false
set_option maxRecDepth 1000000
theorem syntaxCalls_3_0_true : syntaxCallsGo 3 0 true = true := by decide +kernel
theorem syntaxCalls_3_0_false : syntaxCallsGo 3 0 false = true := by decide +kernel
theorem syntaxCalls_3_1_true : syntaxCallsGo 3 1 true = true := by decide +kernel
theorem syntaxCalls_3_1_false : syntaxCallsGo 3 1 false = true := by decide +kernel
theorem syntaxCalls_3_2_true : syntaxCallsGo 3 2 true = true := by decide +kernel
theorem syntaxCalls_3_2_false : syntaxCallsGo 3 2 false = true := by decide +kernel
theorem syntaxCalls_3_3_true : syntaxCallsGo 3 3 true = true := by decide +kernel
theorem syntaxCalls_3_3_false : syntaxCallsGo 3 3 false = true := by decide +kernel
end Go.Proofs.YtkaegfgaemnemaaDoor.Fin
