/- Cases of the law CodeBlocks, each run in the kernel. -/
import Derived.Test.YtlnjikneepgpaaaFinCodeBlocksB
namespace Go.Proofs.Ytlnjikneepgpaaa.Fin
open Go.Proofs.Ytlnjikneepgpaaa.Fast Go.RowKit
set_option linter.unusedVariables false
set_option maxRecDepth 1000000
theorem codeBlocks_1_0 : codeBlocksGo 1 0 = true := by decide +kernel
theorem codeBlocks_1_1 : codeBlocksGo 1 1 = true := by decide +kernel
theorem codeBlocks_1_2 : codeBlocksGo 1 2 = true := by decide +kernel
theorem codeBlocks_1_3 : codeBlocksGo 1 3 = true := by decide +kernel
theorem codeBlocks_1_4 : codeBlocksGo 1 4 = true := by decide +kernel
theorem codeBlocks_1_5 : codeBlocksGo 1 5 = true := by decide +kernel
end Go.Proofs.Ytlnjikneepgpaaa.Fin
