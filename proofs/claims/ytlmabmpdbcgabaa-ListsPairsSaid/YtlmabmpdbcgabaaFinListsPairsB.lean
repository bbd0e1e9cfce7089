/- What a case of the law ListsPairs runs. -/
import Derived.Test.YtlmabmpdbcgabaaEvMemo
namespace Go.Proofs.Ytlmabmpdbcgabaa.Fin
open Go.Proofs.Ytlmabmpdbcgabaa.Fast Go.RowKit
set_option linter.unusedVariables false
noncomputable def listsPairsGo (r0 : Nat) (r1 : Nat) : Bool := isTrue (call Try.prog (memoK memo (placeK 21 (tab2 20 r0 20 r1))) 1000000 6 [.sym 0, .sym 1] Heap.emp)
end Go.Proofs.Ytlmabmpdbcgabaa.Fin
