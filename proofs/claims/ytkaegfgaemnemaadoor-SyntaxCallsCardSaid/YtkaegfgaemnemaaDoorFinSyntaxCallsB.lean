/- What a case of the law SyntaxCalls runs. -/
import Derived.Test.YtkaegfgaemnemaaDoorEvMemo
namespace Go.Proofs.YtkaegfgaemnemaaDoor.Fin
open Go.Proofs.YtkaegfgaemnemaaDoor.Fast Go.RowKit
set_option linter.unusedVariables false
noncomputable def syntaxCallsGo (r0 : Nat) (r1 : Nat) (b2 : Bool) : Bool := isTrue (call Tryd.prog (memoK memo (placeK 9 (tab2 8 r0 8 r1))) 1000000 4 [.sym 0, .sym 1, .bool b2] Heap.emp)
end Go.Proofs.YtkaegfgaemnemaaDoor.Fin
