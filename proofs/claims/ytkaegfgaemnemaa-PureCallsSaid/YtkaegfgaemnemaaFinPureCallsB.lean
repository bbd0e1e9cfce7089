/- What a case of the law PureCalls runs. -/
import Derived.Test.YtkaegfgaemnemaaEvMemo
namespace Go.Proofs.Ytkaegfgaemnemaa.Fin
open Go.Proofs.Ytkaegfgaemnemaa.Fast Go.RowKit
set_option linter.unusedVariables false
noncomputable def pureCallsGo (r0 : Nat) (r1 : Nat) : Bool := isTrue (call Try.prog (memoK memo (placeK 14 (tab2 12 r0 4 r1))) 1000000 4 [.sym 0, .sym 1] Heap.emp)
end Go.Proofs.Ytkaegfgaemnemaa.Fin
