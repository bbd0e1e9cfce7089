/- Cases of the law PureCalls, each run in the kernel. -/
import Derived.Test.YtkaegfgaemnemaaFinPureCallsB
namespace Go.Proofs.Ytkaegfgaemnemaa.Fin
open Go.Proofs.Ytkaegfgaemnemaa.Fast Go.RowKit
set_option linter.unusedVariables false
set_option maxRecDepth 1000000
theorem pureCalls_10_2 : pureCallsGo 10 2 = true := by decide +kernel
theorem pureCalls_10_3 : pureCallsGo 10 3 = true := by decide +kernel
theorem pureCalls_11_0 : pureCallsGo 11 0 = true := by decide +kernel
theorem pureCalls_11_1 : pureCallsGo 11 1 = true := by decide +kernel
theorem pureCalls_11_2 : pureCallsGo 11 2 = true := by decide +kernel
theorem pureCalls_11_3 : pureCallsGo 11 3 = true := by decide +kernel
end Go.Proofs.Ytkaegfgaemnemaa.Fin
