/- Cases of the law PureCalls, each run in the kernel. -/
import Derived.Test.YtkaegfgaemnemaaFinPureCallsB
namespace Go.Proofs.Ytkaegfgaemnemaa.Fin
open Go.Proofs.Ytkaegfgaemnemaa.Fast Go.RowKit
set_option linter.unusedVariables false
set_option maxRecDepth 1000000
theorem pureCalls_0_0 : pureCallsGo 0 0 = true := by decide +kernel
theorem pureCalls_0_1 : pureCallsGo 0 1 = true := by decide +kernel
theorem pureCalls_0_2 : pureCallsGo 0 2 = true := by decide +kernel
theorem pureCalls_0_3 : pureCallsGo 0 3 = true := by decide +kernel
theorem pureCalls_1_0 : pureCallsGo 1 0 = true := by decide +kernel
theorem pureCalls_1_1 : pureCallsGo 1 1 = true := by decide +kernel
end Go.Proofs.Ytkaegfgaemnemaa.Fin
