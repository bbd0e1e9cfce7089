/- Cases of the law PureCalls, each run in the kernel. -/
import Derived.Test.YtkaegfgaemnemaaFinPureCallsB
namespace Go.Proofs.Ytkaegfgaemnemaa.Fin
open Go.Proofs.Ytkaegfgaemnemaa.Fast Go.RowKit
set_option linter.unusedVariables false
set_option maxRecDepth 1000000
theorem pureCalls_7_2 : pureCallsGo 7 2 = true := by decide +kernel
theorem pureCalls_7_3 : pureCallsGo 7 3 = true := by decide +kernel
theorem pureCalls_8_0 : pureCallsGo 8 0 = true := by decide +kernel
theorem pureCalls_8_1 : pureCallsGo 8 1 = true := by decide +kernel
theorem pureCalls_8_2 : pureCallsGo 8 2 = true := by decide +kernel
theorem pureCalls_8_3 : pureCallsGo 8 3 = true := by decide +kernel
end Go.Proofs.Ytkaegfgaemnemaa.Fin
