/- What a case of the law SoundArgs runs. -/
import Derived.Test.YtlnjikneepgpaaaEvPlace
namespace Go.Proofs.Ytlnjikneepgpaaa.Fin
open Go.Proofs.Ytlnjikneepgpaaa.Fast Go.RowKit
set_option linter.unusedVariables false
noncomputable def soundArgsGo (r0 : Nat) (r1 : Nat) (b2 : Bool) : Bool := isTrue (call Try.prog (placeK 27 (tab2 8 r0 8 r1)) 1000000 9 [.sym 0, .sym 1, .bool b2] Heap.emp)
end Go.Proofs.Ytlnjikneepgpaaa.Fin
