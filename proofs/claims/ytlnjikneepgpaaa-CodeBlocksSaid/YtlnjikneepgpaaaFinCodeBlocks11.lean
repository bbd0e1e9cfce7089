/- Cases of the law CodeBlocks, each run in the kernel. -/
import Derived.Test.YtlnjikneepgpaaaFinCodeBlocksB
namespace Go.Proofs.Ytlnjikneepgpaaa.Fin
open Go.Proofs.Ytlnjikneepgpaaa.Fast Go.RowKit
set_option linter.unusedVariables false
set_option maxRecDepth 1000000
theorem codeBlocks_11_0 : codeBlocksGo 11 0 = true := by decide +kernel
theorem codeBlocks_11_1 : codeBlocksGo 11 1 = true := by decide +kernel
theorem codeBlocks_11_2 : codeBlocksGo 11 2 = true := by decide +kernel
theorem codeBlocks_11_3 : codeBlocksGo 11 3 = true := by decide +kernel
theorem codeBlocks_11_4 : codeBlocksGo 11 4 = true := by decide +kernel
theorem codeBlocks_11_5 : codeBlocksGo 11 5 = true := by decide +kernel
end Go.Proofs.Ytlnjikneepgpaaa.Fin
