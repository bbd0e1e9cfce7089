/- What a case of the law RenderFits runs. -/
import Derived.Test.YtlmabmpdbcgabaaDoorEvMemo
namespace Go.Proofs.YtlmabmpdbcgabaaDoor.Fin
open Go.Proofs.YtlmabmpdbcgabaaDoor.Fast Go.RowKit
set_option linter.unusedVariables false
noncomputable def renderFitsGo (r0 : Nat) (r1 : Nat) : Bool := isTrue (call Tryd.prog (memoK memo (placeK 6 (tab1 11 r1))) 1000000 3 [.int .u8 (.ofNat r0), .sym 0] Heap.emp)
end Go.Proofs.YtlmabmpdbcgabaaDoor.Fin
