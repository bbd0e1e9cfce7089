/- Cases of the law CodeBlocks, each run in the kernel. -/
import Derived.Test.YtlnjikneepgpaaaFinCodeBlocksB
namespace Go.Proofs.Ytlnjikneepgpaaa.Fin
open Go.Proofs.Ytlnjikneepgpaaa.Fast Go.RowKit
set_option linter.unusedVariables false
set_option maxRecDepth 1000000
theorem codeBlocks_4_0 : codeBlocksGo 4 0 = true := by decide +kernel
theorem codeBlocks_4_1 : codeBlocksGo 4 1 = true := by decide +kernel
theorem codeBlocks_4_2 : codeBlocksGo 4 2 = true := by decide +kernel
theorem codeBlocks_4_3 : codeBlocksGo 4 3 = true := by decide +kernel
theorem codeBlocks_4_4 : codeBlocksGo 4 4 = true := by decide +kernel
theorem codeBlocks_4_5 : codeBlocksGo 4 5 = true := by decide +kernel
end Go.Proofs.Ytlnjikneepgpaaa.Fin
