/- What a case of the law PathUp runs. -/
import Derived.Test.YtpoekljclapbfaaDoorEvMemo
namespace Go.Proofs.YtpoekljclapbfaaDoor.Fin
open Go.Proofs.YtpoekljclapbfaaDoor.Fast Go.RowKit
set_option linter.unusedVariables false
noncomputable def pathUpGo (r0 : Nat) (r1 : Nat) (r2 : Nat) : Bool := isTrue (call Tryd.prog (memoK memo (placeK 18 (tabL [(12, r0), (15, r1), (3, r2)]))) 1000000 6 [.sym 0, .sym 1, .sym 2] Heap.emp)
end Go.Proofs.YtpoekljclapbfaaDoor.Fin
