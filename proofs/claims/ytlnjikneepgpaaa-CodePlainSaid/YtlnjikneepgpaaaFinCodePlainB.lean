/- What a case of the law CodePlain runs. -/
import Derived.Test.YtlnjikneepgpaaaEvMemo
namespace Go.Proofs.Ytlnjikneepgpaaa.Fin
open Go.Proofs.Ytlnjikneepgpaaa.Fast Go.RowKit
set_option linter.unusedVariables false
noncomputable def codePlainGo (r0 : Nat) (r1 : Nat) : Bool := isTrue (call Try.prog (memoK memo (placeK 27 (tab2 8 r0 10 r1))) 1000000 5 [.sym 0, .sym 1] Heap.emp)
end Go.Proofs.Ytlnjikneepgpaaa.Fin
