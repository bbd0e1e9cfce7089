/- Cases of the law SyntaxCalls, each run in the kernel. -/
import Derived.Test.YtkaegfgaemnemaaDoorFinSyntaxCallsB
namespace Go.Proofs.YtkaegfgaemnemaaDoor.Fin
open Go.Proofs.YtkaegfgaemnemaaDoor.Fast Go.RowKit
set_option linter.unusedVariables false
set_option maxRecDepth 1000000
theorem syntaxCalls_3_4_true : syntaxCallsGo 3 4 true = true := by decide +kernel
theorem syntaxCalls_3_4_false : syntaxCallsGo 3 4 false = true := by decide +kernel
theorem syntaxCalls_3_5_true : syntaxCallsGo 3 5 true = true := by decide +kernel
theorem syntaxCalls_3_5_false : syntaxCallsGo 3 5 false = true := by decide +kernel
theorem syntaxCalls_3_6_true : syntaxCallsGo 3 6 true = true := by decide +kernel
theorem syntaxCalls_3_6_false : syntaxCallsGo 3 6 false = true := by decide +kernel
theorem syntaxCalls_3_7_true : syntaxCallsGo 3 7 true = true := by decide +kernel
theorem syntaxCalls_3_7_false : syntaxCallsGo 3 7 false = true := by decide +kernel
end Go.Proofs.YtkaegfgaemnemaaDoor.Fin
