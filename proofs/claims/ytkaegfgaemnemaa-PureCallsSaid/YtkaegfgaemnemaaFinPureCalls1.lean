/- Cases of the law PureCalls, each run in the kernel. -/
import Derived.Test.YtkaegfgaemnemaaFinPureCallsB
namespace Go.Proofs.Ytkaegfgaemnemaa.Fin
open Go.Proofs.Ytkaegfgaemnemaa.Fast Go.RowKit
set_option linter.unusedVariables false
set_option maxRecDepth 1000000
theorem pureCalls_1_2 : pureCallsGo 1 2 = true := by decide +kernel
theorem pureCalls_1_3 : pureCallsGo 1 3 = true := by decide +kernel
theorem pureCalls_2_0 : pureCallsGo 2 0 = true := by decide +kernel
theorem pureCalls_2_1 : pureCallsGo 2 1 = true := by decide +kernel
theorem pureCalls_2_2 : pureCallsGo 2 2 = true := by decide +kernel
theorem pureCalls_2_3 : pureCallsGo 2 3 = true := by decide +kernel
end Go.Proofs.Ytkaegfgaemnemaa.Fin
