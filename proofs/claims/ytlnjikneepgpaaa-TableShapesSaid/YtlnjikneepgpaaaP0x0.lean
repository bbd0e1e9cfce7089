-- Written by a program of this session (wip/tools) out of the translation, over the kit's print. Not trusted: Lean checks it.
import Derived.Test.YtlnjikneepgpaaaProg
import Derived.Below
import Derived.Deep.Draws
import Derived.Deep.AppendLies
import Derived.Maps.AppendAt
import Derived.OwnWalk
import Derived.Laws.BytesArg
import Derived.Laws.MakeOwn
import Derived.Laws.OwnMore
import Derived.Deep.OwnRows
import Derived.Tactics
import Derived.Lib.ConvBytes
import Derived.Laws.Slices
import Derived.WalkKit
import Derived.KernelRfl
import Derived.RowKit3
import Derived.Deep.LoopGhost
import Derived.Deep.QuietTactic
import Derived.BigQuiet
import Derived.WideLaws
import Derived.Deep.DeepCutAuto
import Derived.Deep.CutBlock
import Derived.Deep.RegionHeld3
import Derived.Laws.Rows
import Derived.Lib.AppendStr
import Derived.ArgAppend
import Derived.Laws.IdiomCopy
import Derived.OrdersHeld
import Derived.Laws.BitsLemmas
import Derived.RowKit
import Derived.Test.YtlnjikneepgpaaaWWords
import Derived.Test.YtlnjikneepgpaaaWLast
import Derived.Test.YtlnjikneepgpaaaWTab
import Derived.Test.YtlnjikneepgpaaaWFour
import Derived.Test.YtlnjikneepgpaaaWQPut
import Derived.Test.YtlnjikneepgpaaaWApart
import Derived.Test.YtlnjikneepgpaaaWArr
import Derived.Test.YtlnjikneepgpaaaWZeros
import Derived.Test.YtlnjikneepgpaaaWFoot
import Derived.Test.YtlnjikneepgpaaaWKept
import Derived.Test.YtlnjikneepgpaaaWShare
import Derived.Test.YtlnjikneepgpaaaWN
import Derived.Test.YtlnjikneepgpaaaWFootNe
import Derived.Test.YtlnjikneepgpaaaWAt
import Derived.Test.YtlnjikneepgpaaaWEqStruct
import Derived.Test.YtlnjikneepgpaaaWRepsOne
import Derived.Test.YtlnjikneepgpaaaWInv
import Derived.Test.YtlnjikneepgpaaaWInvWords
import Derived.Test.YtlnjikneepgpaaaWGuard
import Derived.Test.YtlnjikneepgpaaaWNEv
import Derived.Test.YtlnjikneepgpaaaWMore
namespace Go.Proofs.Ytlnjikneepgpaaa.G
end Go.Proofs.Ytlnjikneepgpaaa.G
namespace Go.Proofs.Ytlnjikneepgpaaa.P0
open Go.Proofs.Ytlnjikneepgpaaa.G
open Go.RowKit Go.Proofs.YtlnjikneepgpaaaW.PrintWords Go.Proofs.YtlnjikneepgpaaaW.PrintLast Go.Proofs.YtlnjikneepgpaaaW.PrintMore
attribute [local go_sem] max2_int min2_int max_two min_two max_three min_three max_four min_four   -- for this text's walks alone
set_option linter.unusedVariables false
set_option linter.unusedSimpArgs false



def errW : Option Int → Value
  | none => .nilIface
  | some c => .iface 0 (.int .i64 c)
theorem errW_none : errW none = .nilIface := rfl
theorem errW_some (c : Int) : errW (some c) = .iface 0 (.int .i64 c) := rfl

-- the values' own types

end Go.Proofs.Ytlnjikneepgpaaa.P0
