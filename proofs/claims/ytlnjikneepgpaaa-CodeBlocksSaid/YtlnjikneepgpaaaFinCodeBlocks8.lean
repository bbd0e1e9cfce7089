/- Cases of the law CodeBlocks, each run in the kernel. -/
import Derived.Test.YtlnjikneepgpaaaFinCodeBlocksB
namespace Go.Proofs.Ytlnjikneepgpaaa.Fin
open Go.Proofs.Ytlnjikneepgpaaa.Fast Go.RowKit
set_option linter.unusedVariables false
set_option maxRecDepth 1000000
theorem codeBlocks_8_0 : codeBlocksGo 8 0 = true := by decide +kernel
theorem codeBlocks_8_1 : codeBlocksGo 8 1 = true := by decide +kernel
theorem codeBlocks_8_2 : codeBlocksGo 8 2 = true := by decide +kernel
theorem codeBlocks_8_3 : codeBlocksGo 8 3 = true := by decide +kernel
theorem codeBlocks_8_4 : codeBlocksGo 8 4 = true := by decide +kernel
theorem codeBlocks_8_5 : codeBlocksGo 8 5 = true := by decide +kernel
end Go.Proofs.Ytlnjikneepgpaaa.Fin
