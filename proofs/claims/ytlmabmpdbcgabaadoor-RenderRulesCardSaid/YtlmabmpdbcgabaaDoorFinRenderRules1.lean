/- Cases of the law RenderRules, each run in the kernel. -/
import Derived.Test.YtlmabmpdbcgabaaDoorFinRenderRulesB
namespace Go.Proofs.YtlmabmpdbcgabaaDoor.Fin
open Go.Proofs.YtlmabmpdbcgabaaDoor.Fast Go.RowKit
set_option linter.unusedVariables false
set_option maxRecDepth 1000000
theorem renderRules_0_1_0_true : renderRulesGo 0 1 0 true = true := by decide +kernel
theorem renderRules_0_1_0_false : renderRulesGo 0 1 0 false = true := by decide +kernel
theorem renderRules_0_1_1_true : renderRulesGo 0 1 1 true = true := by decide +kernel
theorem renderRules_0_1_1_false : renderRulesGo 0 1 1 false = true := by decide +kernel
theorem renderRules_0_1_2_true : renderRulesGo 0 1 2 true = true := by decide +kernel
theorem renderRules_0_1_2_false : renderRulesGo 0 1 2 false = true := by decide +kernel
theorem renderRules_0_1_3_true : renderRulesGo 0 1 3 true = true := by decide +kernel
theorem renderRules_0_1_3_false : renderRulesGo 0 1 3 false = true := by decide +kernel
end Go.Proofs.YtlmabmpdbcgabaaDoor.Fin
