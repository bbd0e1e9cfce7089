/- What a case of the law RenderRules runs. -/
import Derived.Test.YtlmabmpdbcgabaaDoorEvMemo
namespace Go.Proofs.YtlmabmpdbcgabaaDoor.Fin
open Go.Proofs.YtlmabmpdbcgabaaDoor.Fast Go.RowKit
set_option linter.unusedVariables false
noncomputable def renderRulesGo (r0 : Nat) (r1 : Nat) (r2 : Nat) (b3 : Bool) : Bool := isTrue (call Tryd.prog (memoK memo (placeK 6 (tabL [(5, r0), (4, r1), (4, r2)]))) 1000000 5 [.sym 0, .sym 1, .sym 2, .bool b3] Heap.emp)
end Go.Proofs.YtlmabmpdbcgabaaDoor.Fin
