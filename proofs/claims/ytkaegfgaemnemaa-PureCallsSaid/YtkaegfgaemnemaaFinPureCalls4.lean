/- Cases of the law PureCalls, each run in the kernel. -/
import Derived.Test.YtkaegfgaemnemaaFinPureCallsB
namespace Go.Proofs.Ytkaegfgaemnemaa.Fin
open Go.Proofs.Ytkaegfgaemnemaa.Fast Go.RowKit
set_option linter.unusedVariables false
set_option maxRecDepth 1000000
theorem pureCalls_6_0 : pureCallsGo 6 0 = true := by decide +kernel
theorem pureCalls_6_1 : pureCallsGo 6 1 = true := by decide +kernel
theorem pureCalls_6_2 : pureCallsGo 6 2 = true := by decide +kernel
theorem pureCalls_6_3 : pureCallsGo 6 3 = true := by decide +kernel
theorem pureCalls_7_0 : pureCallsGo 7 0 = true := by decide +kernel
theorem pureCalls_7_1 : pureCallsGo 7 1 = true := by decide +kernel
end Go.Proofs.Ytkaegfgaemnemaa.Fin
