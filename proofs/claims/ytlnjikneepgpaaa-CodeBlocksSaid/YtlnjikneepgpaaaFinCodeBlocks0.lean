/- Cases of the law CodeBlocks, each run in the kernel. -/
import Derived.Test.YtlnjikneepgpaaaFinCodeBlocksB
namespace Go.Proofs.Ytlnjikneepgpaaa.Fin
open Go.Proofs.Ytlnjikneepgpaaa.Fast Go.RowKit
set_option linter.unusedVariables false
set_option maxRecDepth 1000000
theorem codeBlocks_0_0 : codeBlocksGo 0 0 = true := by decide +kernel
theorem codeBlocks_0_1 : codeBlocksGo 0 1 = true := by decide +kernel
theorem codeBlocks_0_2 : codeBlocksGo 0 2 = true := by decide +kernel
theorem codeBlocks_0_3 : codeBlocksGo 0 3 = true := by decide +kernel
theorem codeBlocks_0_4 : codeBlocksGo 0 4 = true := by decide +kernel
theorem codeBlocks_0_5 : codeBlocksGo 0 5 = true := by decide +kernel
end Go.Proofs.Ytlnjikneepgpaaa.Fin
