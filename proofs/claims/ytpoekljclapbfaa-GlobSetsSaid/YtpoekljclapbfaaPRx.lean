-- Written by a program of this session (wip/tools) out of the translation, over the kit's print. Not trusted: Lean checks it.
import Derived.Test.YtpoekljclapbfaaPRx0
import Derived.Test.YtpoekljclapbfaaPRx1
namespace Go.Proofs.Ytpoekljclapbfaa.PR
open Go.RowKit Go.Proofs.YtpoekljclapbfaaW.PrintWords Go.Proofs.YtpoekljclapbfaaW.PrintLast Go.Proofs.YtpoekljclapbfaaW.PrintMore
attribute [local go_sem] max2_int min2_int max_two min_two max_three min_three max_four min_four   -- for this text's walks alone
set_option linter.unusedVariables false
set_option linter.unusedSimpArgs false

end Go.Proofs.Ytpoekljclapbfaa.PR
