/- Cases of the law CodeBlocks, each run in the kernel. -/
import Derived.Test.YtlnjikneepgpaaaFinCodeBlocksB
namespace Go.Proofs.Ytlnjikneepgpaaa.Fin
open Go.Proofs.Ytlnjikneepgpaaa.Fast Go.RowKit
set_option linter.unusedVariables false
set_option maxRecDepth 1000000
theorem codeBlocks_5_0 : codeBlocksGo 5 0 = true := by decide +kernel
theorem codeBlocks_5_1 : codeBlocksGo 5 1 = true := by decide +kernel
theorem codeBlocks_5_2 : codeBlocksGo 5 2 = true := by decide +kernel
theorem codeBlocks_5_3 : codeBlocksGo 5 3 = true := by decide +kernel
theorem codeBlocks_5_4 : codeBlocksGo 5 4 = true := by decide +kernel
theorem codeBlocks_5_5 : codeBlocksGo 5 5 = true := by decide +kernel
end Go.Proofs.Ytlnjikneepgpaaa.Fin
