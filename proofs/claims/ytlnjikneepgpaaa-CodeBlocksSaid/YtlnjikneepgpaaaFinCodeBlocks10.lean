/- Cases of the law CodeBlocks, each run in the kernel. -/
import Derived.Test.YtlnjikneepgpaaaFinCodeBlocksB
namespace Go.Proofs.Ytlnjikneepgpaaa.Fin
open Go.Proofs.Ytlnjikneepgpaaa.Fast Go.RowKit
set_option linter.unusedVariables false
set_option maxRecDepth 1000000
theorem codeBlocks_10_0 : codeBlocksGo 10 0 = true := by decide +kernel
theorem codeBlocks_10_1 : codeBlocksGo 10 1 = true := by decide +kernel
theorem codeBlocks_10_2 : codeBlocksGo 10 2 = true := by decide +kernel
theorem codeBlocks_10_3 : codeBlocksGo 10 3 = true := by decide +kernel
theorem codeBlocks_10_4 : codeBlocksGo 10 4 = true := by decide +kernel
theorem codeBlocks_10_5 : codeBlocksGo 10 5 = true := by decide +kernel
end Go.Proofs.Ytlnjikneepgpaaa.Fin
