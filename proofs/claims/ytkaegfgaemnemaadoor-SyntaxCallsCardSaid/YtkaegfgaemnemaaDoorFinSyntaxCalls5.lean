/- Cases of the law SyntaxCalls, each run in the kernel. -/
import Derived.Test.YtkaegfgaemnemaaDoorFinSyntaxCallsB
namespace Go.Proofs.YtkaegfgaemnemaaDoor.Fin
open Go.Proofs.YtkaegfgaemnemaaDoor.Fast Go.RowKit
set_option linter.unusedVariables false
set_option maxRecDepth 1000000
theorem syntaxCalls_2_4_true : syntaxCallsGo 2 4 true = true := by decide +kernel
theorem syntaxCalls_2_4_false : syntaxCallsGo 2 4 false = true := by decide +kernel
theorem syntaxCalls_2_5_true : syntaxCallsGo 2 5 true = true := by decide +kernel
theorem syntaxCalls_2_5_false : syntaxCallsGo 2 5 false = true := by decide +kernel
theorem syntaxCalls_2_6_true : syntaxCallsGo 2 6 true = true := by decide +kernel
theorem syntaxCalls_2_6_false : syntaxCallsGo 2 6 false = true := by decide +kernel
theorem syntaxCalls_2_7_true : syntaxCallsGo 2 7 true = true := by decide +kernel
theorem syntaxCalls_2_7_false : syntaxCallsGo 2 7 false = true := by decide +kernel
end Go.Proofs.YtkaegfgaemnemaaDoor.Fin
