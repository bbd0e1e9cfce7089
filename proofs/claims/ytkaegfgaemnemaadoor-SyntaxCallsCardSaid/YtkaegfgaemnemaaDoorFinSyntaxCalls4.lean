/- Cases of the law SyntaxCalls, each run in the kernel. -/
import Derived.Test.YtkaegfgaemnemaaDoorFinSyntaxCallsB
namespace Go.Proofs.YtkaegfgaemnemaaDoor.Fin
open Go.Proofs.YtkaegfgaemnemaaDoor.Fast Go.RowKit
set_option linter.unusedVariables false
set_option maxRecDepth 1000000
theorem syntaxCalls_2_0_true : syntaxCallsGo 2 0 true = true := by decide +kernel
theorem syntaxCalls_2_0_false : syntaxCallsGo 2 0 false = true := by decide +kernel
theorem syntaxCalls_2_1_true : syntaxCallsGo 2 1 true = true := by decide +kernel
theorem syntaxCalls_2_1_false : syntaxCallsGo 2 1 false = true := by decide +kernel
theorem syntaxCalls_2_2_true : syntaxCallsGo 2 2 true = true := by decide +kernel
theorem syntaxCalls_2_2_false : syntaxCallsGo 2 2 false = true := by decide +kernel
theorem syntaxCalls_2_3_true : syntaxCallsGo 2 3 true = true := by decide +kernel
theorem syntaxCalls_2_3_false : syntaxCallsGo 2 3 false = true := by decide +kernel
end Go.Proofs.YtkaegfgaemnemaaDoor.Fin
