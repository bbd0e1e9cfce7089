/- Cases of the law ListsSlices, each run in the kernel. -/
import Derived.Test.YtlmabmpdbcgabaaFinListsSlicesB
namespace Go.Proofs.Ytlmabmpdbcgabaa.Fin
open Go.Proofs.Ytlmabmpdbcgabaa.Fast Go.RowKit
set_option linter.unusedVariables false
set_option maxRecDepth 1000000
theorem ls_29_29 : alls (lsGo 29 (.int .i64 (.ofNat 29))) (cls 29) = true := by decide +kernel
theorem ls_29_30 : alls (lsGo 29 (.ge (.ofNat 30))) (cls 29) = true := by decide +kernel
end Go.Proofs.Ytlmabmpdbcgabaa.Fin
