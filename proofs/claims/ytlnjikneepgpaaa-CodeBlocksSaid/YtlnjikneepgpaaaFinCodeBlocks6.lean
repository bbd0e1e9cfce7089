/- Cases of the law CodeBlocks, each run in the kernel. -/
import Derived.Test.YtlnjikneepgpaaaFinCodeBlocksB
namespace Go.Proofs.Ytlnjikneepgpaaa.Fin
open Go.Proofs.Ytlnjikneepgpaaa.Fast Go.RowKit
set_option linter.unusedVariables false
set_option maxRecDepth 1000000
theorem codeBlocks_6_0 : codeBlocksGo 6 0 = true := by decide +kernel
theorem codeBlocks_6_1 : codeBlocksGo 6 1 = true := by decide +kernel
theorem codeBlocks_6_2 : codeBlocksGo 6 2 = true := by decide +kernel
theorem codeBlocks_6_3 : codeBlocksGo 6 3 = true := by decide +kernel
theorem codeBlocks_6_4 : codeBlocksGo 6 4 = true := by decide +kernel
theorem codeBlocks_6_5 : codeBlocksGo 6 5 = true := by decide +kernel
end Go.Proofs.Ytlnjikneepgpaaa.Fin
