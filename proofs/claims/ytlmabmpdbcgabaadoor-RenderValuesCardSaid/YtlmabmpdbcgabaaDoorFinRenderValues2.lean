/- Cases of the law RenderValues, each run in the kernel. -/
import Derived.Test.YtlmabmpdbcgabaaDoorFinRenderValuesB
namespace Go.Proofs.YtlmabmpdbcgabaaDoor.Fin
open Go.Proofs.YtlmabmpdbcgabaaDoor.Fast Go.RowKit
set_option linter.unusedVariables false
set_option maxRecDepth 1000000
theorem renderValues_2_true : renderValuesGo 2 true = true := by decide +kernel
theorem renderValues_2_false : renderValuesGo 2 false = true := by decide +kernel
end Go.Proofs.YtlmabmpdbcgabaaDoor.Fin
