/- Cases of the law RenderRules, each run in the kernel. -/
import Derived.Test.YtlmabmpdbcgabaaDoorFinRenderRulesB
namespace Go.Proofs.YtlmabmpdbcgabaaDoor.Fin
open Go.Proofs.YtlmabmpdbcgabaaDoor.Fast Go.RowKit
set_option linter.unusedVariables false
set_option maxRecDepth 1000000
theorem renderRules_4_2_0_true : renderRulesGo 4 2 0 true = true := by decide +kernel
theorem renderRules_4_2_0_false : renderRulesGo 4 2 0 false = true := by decide +kernel
theorem renderRules_4_2_1_true : renderRulesGo 4 2 1 true = true := by decide +kernel
theorem renderRules_4_2_1_false : renderRulesGo 4 2 1 false = true := by decide +kernel
theorem renderRules_4_2_2_true : renderRulesGo 4 2 2 true = true := by decide +kernel
theorem renderRules_4_2_2_false : renderRulesGo 4 2 2 false = true := by decide +kernel
theorem renderRules_4_2_3_true : renderRulesGo 4 2 3 true = true := by decide +kernel
theorem renderRules_4_2_3_false : renderRulesGo 4 2 3 false = true := by decide +kernel
end Go.Proofs.YtlmabmpdbcgabaaDoor.Fin
