/- Cases of the law CodeBlocks, each run in the kernel. -/
import Derived.Test.YtlnjikneepgpaaaFinCodeBlocksB
namespace Go.Proofs.Ytlnjikneepgpaaa.Fin
open Go.Proofs.Ytlnjikneepgpaaa.Fast Go.RowKit
set_option linter.unusedVariables false
set_option maxRecDepth 1000000
theorem codeBlocks_9_0 : codeBlocksGo 9 0 = true := by decide +kernel
theorem codeBlocks_9_1 : codeBlocksGo 9 1 = true := by decide +kernel
theorem codeBlocks_9_2 : codeBlocksGo 9 2 = true := by decide +kernel
theorem codeBlocks_9_3 : codeBlocksGo 9 3 = true := by decide +kernel
theorem codeBlocks_9_4 : codeBlocksGo 9 4 = true := by decide +kernel
theorem codeBlocks_9_5 : codeBlocksGo 9 5 = true := by decide +kernel
end Go.Proofs.Ytlnjikneepgpaaa.Fin
