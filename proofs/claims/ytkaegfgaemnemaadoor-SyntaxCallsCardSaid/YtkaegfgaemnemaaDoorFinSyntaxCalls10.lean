/- Cases of the law SyntaxCalls, each run in the kernel. -/
import Derived.Test.YtkaegfgaemnemaaDoorFinSyntaxCallsB
namespace Go.Proofs.YtkaegfgaemnemaaDoor.Fin
open Go.Proofs.YtkaegfgaemnemaaDoor.Fast Go.RowKit
set_option linter.unusedVariables false
set_option maxRecDepth 1000000
theorem syntaxCalls_5_0_true : syntaxCallsGo 5 0 true = true := by decide +kernel
theorem syntaxCalls_5_0_false : syntaxCallsGo 5 0 false = true := by decide +kernel
theorem syntaxCalls_5_1_true : syntaxCallsGo 5 1 true = true := by decide +kernel
theorem syntaxCalls_5_1_false : syntaxCallsGo 5 1 false = true := by decide +kernel
theorem syntaxCalls_5_2_true : syntaxCallsGo 5 2 true = true := by decide +kernel
theorem syntaxCalls_5_2_false : syntaxCallsGo 5 2 false = true := by decide +kernel
theorem syntaxCalls_5_3_true : syntaxCallsGo 5 3 true = true := by decide +kernel
theorem syntaxCalls_5_3_false : syntaxCallsGo 5 3 false = true := by decide +kernel
end Go.Proofs.YtkaegfgaemnemaaDoor.Fin
