/- What a case of the law RenderValues runs. -/
import Derived.Test.YtlmabmpdbcgabaaDoorEvIdx
namespace Go.Proofs.YtlmabmpdbcgabaaDoor.Fin
open Go.Proofs.YtlmabmpdbcgabaaDoor.Fast Go.RowKit
set_option linter.unusedVariables false
noncomputable def renderValuesGo (r0 : Nat) (b1 : Bool) : Bool := isTrue (call Tryd.prog (memoK memo (idxK 45 (placeK 6 (tab1 9 r0)))) 1000000 4 [.sym 0, .bool b1] Heap.emp)
end Go.Proofs.YtlmabmpdbcgabaaDoor.Fin
