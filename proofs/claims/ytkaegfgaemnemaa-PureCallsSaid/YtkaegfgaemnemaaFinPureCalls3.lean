/- Cases of the law PureCalls, each run in the kernel. -/
import Derived.Test.YtkaegfgaemnemaaFinPureCallsB
namespace Go.Proofs.Ytkaegfgaemnemaa.Fin
open Go.Proofs.Ytkaegfgaemnemaa.Fast Go.RowKit
set_option linter.unusedVariables false
set_option maxRecDepth 1000000
theorem pureCalls_4_2 : pureCallsGo 4 2 = true := by decide +kernel
theorem pureCalls_4_3 : pureCallsGo 4 3 = true := by decide +kernel
theorem pureCalls_5_0 : pureCallsGo 5 0 = true := by decide +kernel
theorem pureCalls_5_1 : pureCallsGo 5 1 = true := by decide +kernel
theorem pureCalls_5_2 : pureCallsGo 5 2 = true := by decide +kernel
theorem pureCalls_5_3 : pureCallsGo 5 3 = true := by decide +kernel
end Go.Proofs.Ytkaegfgaemnemaa.Fin
