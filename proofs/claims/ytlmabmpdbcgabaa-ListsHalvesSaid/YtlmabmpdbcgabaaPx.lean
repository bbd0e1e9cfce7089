-- Written by a program of this session (wip/tools) out of the translation, over the kit's print. Not trusted: Lean checks it.
import Derived.Test.YtlmabmpdbcgabaaPx0
import Derived.Test.YtlmabmpdbcgabaaPx1
import Derived.Test.YtlmabmpdbcgabaaPx2
import Derived.Test.YtlmabmpdbcgabaaPx3
import Derived.Test.YtlmabmpdbcgabaaPx4
import Derived.Test.YtlmabmpdbcgabaaPx5
import Derived.Test.YtlmabmpdbcgabaaPx6
import Derived.Test.YtlmabmpdbcgabaaPx7
import Derived.Test.YtlmabmpdbcgabaaPx8
import Derived.Test.YtlmabmpdbcgabaaPx9
namespace Go.Proofs.Ytlmabmpdbcgabaa.P
open Go.RowKit Go.Proofs.YtlmabmpdbcgabaaW.PrintWords Go.Proofs.YtlmabmpdbcgabaaW.PrintLast Go.Proofs.YtlmabmpdbcgabaaW.PrintMore
attribute [local go_sem] max2_int min2_int max_two min_two max_three min_three max_four min_four   -- for this text's walks alone
set_option linter.unusedVariables false
set_option linter.unusedSimpArgs false

end Go.Proofs.Ytlmabmpdbcgabaa.P
