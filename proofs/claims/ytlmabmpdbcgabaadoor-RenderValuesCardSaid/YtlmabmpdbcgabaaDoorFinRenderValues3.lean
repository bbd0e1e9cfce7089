/- Cases of the law RenderValues, each run in the kernel. -/
import Derived.Test.YtlmabmpdbcgabaaDoorFinRenderValuesB
namespace Go.Proofs.YtlmabmpdbcgabaaDoor.Fin
open Go.Proofs.YtlmabmpdbcgabaaDoor.Fast Go.RowKit
set_option linter.unusedVariables false
set_option maxRecDepth 1000000
theorem renderValues_3_true : renderValuesGo 3 true = true := by decide +kernel
theorem renderValues_3_false : renderValuesGo 3 false = true := by decide +kernel
end Go.Proofs.YtlmabmpdbcgabaaDoor.Fin
