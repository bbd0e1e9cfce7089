/- Cases of the law RenderValues, each run in the kernel. -/
import Derived.Test.YtlmabmpdbcgabaaDoorFinRenderValuesB
namespace Go.Proofs.YtlmabmpdbcgabaaDoor.Fin
open Go.Proofs.YtlmabmpdbcgabaaDoor.Fast Go.RowKit
set_option linter.unusedVariables false
set_option maxRecDepth 1000000
theorem renderValues_6_true : renderValuesGo 6 true = true := by decide +kernel
theorem renderValues_6_false : renderValuesGo 6 false = true := by decide +kernel
end Go.Proofs.YtlmabmpdbcgabaaDoor.Fin
