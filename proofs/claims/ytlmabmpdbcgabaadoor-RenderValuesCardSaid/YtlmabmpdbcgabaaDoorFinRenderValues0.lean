/- Cases of the law RenderValues, each run in the kernel. -/
import Derived.Test.YtlmabmpdbcgabaaDoorFinRenderValuesB
namespace Go.Proofs.YtlmabmpdbcgabaaDoor.Fin
open Go.Proofs.YtlmabmpdbcgabaaDoor.Fast Go.RowKit
set_option linter.unusedVariables false
set_option maxRecDepth 1000000
theorem renderValues_0_true : renderValuesGo 0 true = true := by decide +kernel
theorem renderValues_0_false : renderValuesGo 0 false = true := by decide +kernel
end Go.Proofs.YtlmabmpdbcgabaaDoor.Fin
