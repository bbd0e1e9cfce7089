/- Cases of the law CodeBlocks, each run in the kernel. -/
import Derived.Test.YtlnjikneepgpaaaFinCodeBlocksB
namespace Go.Proofs.Ytlnjikneepgpaaa.Fin
open Go.Proofs.Ytlnjikneepgpaaa.Fast Go.RowKit
set_option linter.unusedVariables false
set_option maxRecDepth 1000000
theorem codeBlocks_2_0 : codeBlocksGo 2 0 = true := by decide +kernel
theorem codeBlocks_2_1 : codeBlocksGo 2 1 = true := by decide +kernel
theorem codeBlocks_2_2 : codeBlocksGo 2 2 = true := by decide +kernel
theorem codeBlocks_2_3 : codeBlocksGo 2 3 = true := by decide +kernel
theorem codeBlocks_2_4 : codeBlocksGo 2 4 = true := by decide +kernel
theorem codeBlocks_2_5 : codeBlocksGo 2 5 = true := by decide +kernel
end Go.Proofs.Ytlnjikneepgpaaa.Fin
