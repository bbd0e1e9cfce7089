/- What a case of the law SyntaxDeep runs. -/
import Derived.Test.YtkaegfgaemnemaaDoorEvMemoD
namespace Go.Proofs.YtkaegfgaemnemaaDoor.Fin
open Go.Proofs.YtkaegfgaemnemaaDoor.Fast Go.RowKit
set_option linter.unusedVariables false
noncomputable def syntaxDeepGo (r0 : Nat) (b1 : Bool) : Bool := isTrue (call Tryd.prog (memoK memo (placeK 9 (tab1 60 r0))) 1000000 3 [.sym 0, .bool b1] Heap.emp)
end Go.Proofs.YtkaegfgaemnemaaDoor.Fin
