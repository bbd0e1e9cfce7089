-- Written by a program of this session (wip/tools) out of the translation, over the kit's print. Not trusted: Lean checks it.
import Derived.Test.YtlnjikneepgpaaaPx0
import Derived.Test.YtlnjikneepgpaaaPx1
import Derived.Test.YtlnjikneepgpaaaPx2
import Derived.Test.YtlnjikneepgpaaaPx3
import Derived.Test.YtlnjikneepgpaaaPx4
import Derived.Test.YtlnjikneepgpaaaPx5
import Derived.Test.YtlnjikneepgpaaaPx6
import Derived.Test.YtlnjikneepgpaaaPx7
import Derived.Test.YtlnjikneepgpaaaPx8
import Derived.Test.YtlnjikneepgpaaaPx9
import Derived.Test.YtlnjikneepgpaaaPx10
import Derived.Test.YtlnjikneepgpaaaPx11
import Derived.Test.YtlnjikneepgpaaaPx12
import Derived.Test.YtlnjikneepgpaaaPx13
import Derived.Test.YtlnjikneepgpaaaPx14
import Derived.Test.YtlnjikneepgpaaaPx15
namespace Go.Proofs.Ytlnjikneepgpaaa.G
end Go.Proofs.Ytlnjikneepgpaaa.G
namespace Go.Proofs.Ytlnjikneepgpaaa.P0
end Go.Proofs.Ytlnjikneepgpaaa.P0
namespace Go.Proofs.Ytlnjikneepgpaaa.P
open Go.Proofs.Ytlnjikneepgpaaa.G Go.Proofs.Ytlnjikneepgpaaa.P0
open Go.RowKit Go.Proofs.YtlnjikneepgpaaaW.PrintWords Go.Proofs.YtlnjikneepgpaaaW.PrintLast Go.Proofs.YtlnjikneepgpaaaW.PrintMore
attribute [local go_sem] max2_int min2_int max_two min_two max_three min_three max_four min_four   -- for this text's walks alone
set_option linter.unusedVariables false
set_option linter.unusedSimpArgs false

end Go.Proofs.Ytlnjikneepgpaaa.P
