/- What a case of the law PrintForms runs. -/
import Derived.Test.YtkaegfgaemnemaaDoorEvMemo
namespace Go.Proofs.YtkaegfgaemnemaaDoor.Fin
open Go.Proofs.YtkaegfgaemnemaaDoor.Fast Go.RowKit
set_option linter.unusedVariables false
noncomputable def printFormsGo (r0 : Nat) (r1 : Nat) : Bool := isTrue (call Tryd.prog (memoK memo (placeK 9 (tab2 10 r0 16 r1))) 1000000 8 [.sym 0, .sym 1] Heap.emp)
end Go.Proofs.YtkaegfgaemnemaaDoor.Fin
