/- Cases of the law PureCalls, each run in the kernel. -/
import Derived.Test.YtkaegfgaemnemaaFinPureCallsB
namespace Go.Proofs.Ytkaegfgaemnemaa.Fin
open Go.Proofs.Ytkaegfgaemnemaa.Fast Go.RowKit
set_option linter.unusedVariables false
set_option maxRecDepth 1000000
theorem pureCalls_9_0 : pureCallsGo 9 0 = true := by decide +kernel
theorem pureCalls_9_1 : pureCallsGo 9 1 = true := by decide +kernel
theorem pureCalls_9_2 : pureCallsGo 9 2 = true := by decide +kernel
theorem pureCalls_9_3 : pureCallsGo 9 3 = true := by decide +kernel
theorem pureCalls_10_0 : pureCallsGo 10 0 = true := by decide +kernel
theorem pureCalls_10_1 : pureCallsGo 10 1 = true := by decide +kernel
end Go.Proofs.Ytkaegfgaemnemaa.Fin
