/- What a case of the law PathNames runs. -/
import Derived.Test.YtpoekljclapbfaaDoorEvPlace
namespace Go.Proofs.YtpoekljclapbfaaDoor.Fin
open Go.Proofs.YtpoekljclapbfaaDoor.Fast Go.RowKit
set_option linter.unusedVariables false
noncomputable def pathNamesGo (r0 : Nat) (r1 : Nat) (r2 : Nat) : Bool := isTrue (call Tryd.prog (placeK 18 (tabL [(5, r0), (4, r1), (4, r2)])) 1000000 5 [.sym 0, .sym 1, .sym 2] Heap.emp)
end Go.Proofs.YtpoekljclapbfaaDoor.Fin
