/- Cases of the law SyntaxCalls, each run in the kernel. -/
import Derived.Test.YtkaegfgaemnemaaDoorFinSyntaxCallsB
namespace Go.Proofs.YtkaegfgaemnemaaDoor.Fin
open Go.Proofs.YtkaegfgaemnemaaDoor.Fast Go.RowKit
set_option linter.unusedVariables false
set_option maxRecDepth 1000000
theorem syntaxCalls_6_4_true : syntaxCallsGo 6 4 true = true := by decide +kernel
theorem syntaxCalls_6_4_false : syntaxCallsGo 6 4 false = true := by decide +kernel
theorem syntaxCalls_6_5_true : syntaxCallsGo 6 5 true = true := by decide +kernel
theorem syntaxCalls_6_5_false : syntaxCallsGo 6 5 false = true := by decide +kernel
theorem syntaxCalls_6_6_true : syntaxCallsGo 6 6 true = true := by decide +kernel
theorem syntaxCalls_6_6_false : syntaxCallsGo 6 6 false = true := by decide +kernel
theorem syntaxCalls_6_7_true : syntaxCallsGo 6 7 true = true := by decide +kernel
theorem syntaxCalls_6_7_false : syntaxCallsGo 6 7 false = true := by decide +kernel
end Go.Proofs.YtkaegfgaemnemaaDoor.Fin
