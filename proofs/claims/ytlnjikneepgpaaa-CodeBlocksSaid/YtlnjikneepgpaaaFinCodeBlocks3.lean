/- Cases of the law CodeBlocks, each run in the kernel. -/
import Derived.Test.YtlnjikneepgpaaaFinCodeBlocksB
namespace Go.Proofs.Ytlnjikneepgpaaa.Fin
open Go.Proofs.Ytlnjikneepgpaaa.Fast Go.RowKit
set_option linter.unusedVariables false
set_option maxRecDepth 1000000
theorem codeBlocks_3_0 : codeBlocksGo 3 0 = true := by decide +kernel
theorem codeBlocks_3_1 : codeBlocksGo 3 1 = true := by decide +kernel
theorem codeBlocks_3_2 : codeBlocksGo 3 2 = true := by decide +kernel
theorem codeBlocks_3_3 : codeBlocksGo 3 3 = true := by decide +kernel
theorem codeBlocks_3_4 : codeBlocksGo 3 4 = true := by decide +kernel
theorem codeBlocks_3_5 : codeBlocksGo 3 5 = true := by decide +kernel
end Go.Proofs.Ytlnjikneepgpaaa.Fin
