/- Cases of the law PureCalls, each run in the kernel. -/
import Derived.Test.YtkaegfgaemnemaaFinPureCallsB
namespace Go.Proofs.Ytkaegfgaemnemaa.Fin
open Go.Proofs.Ytkaegfgaemnemaa.Fast Go.RowKit
set_option linter.unusedVariables false
set_option maxRecDepth 1000000
theorem pureCalls_3_0 : pureCallsGo 3 0 = true := by decide +kernel
theorem pureCalls_3_1 : pureCallsGo 3 1 = true := by decide +kernel
theorem pureCalls_3_2 : pureCallsGo 3 2 = true := by decide +kernel
theorem pureCalls_3_3 : pureCallsGo 3 3 = true := by decide +kernel
theorem pureCalls_4_0 : pureCallsGo 4 0 = true := by decide +kernel
theorem pureCalls_4_1 : pureCallsGo 4 1 = true := by decide +kernel
end Go.Proofs.Ytkaegfgaemnemaa.Fin
