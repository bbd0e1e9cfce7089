/- Cases of the law CodeBlocks, each run in the kernel. -/
import Derived.Test.YtlnjikneepgpaaaFinCodeBlocksB
namespace Go.Proofs.Ytlnjikneepgpaaa.Fin
open Go.Proofs.Ytlnjikneepgpaaa.Fast Go.RowKit
set_option linter.unusedVariables false
set_option maxRecDepth 1000000
theorem codeBlocks_7_0 : codeBlocksGo 7 0 = true := by decide +kernel
theorem codeBlocks_7_1 : codeBlocksGo 7 1 = true := by decide +kernel
theorem codeBlocks_7_2 : codeBlocksGo 7 2 = true := by decide +kernel
theorem codeBlocks_7_3 : codeBlocksGo 7 3 = true := by decide +kernel
theorem codeBlocks_7_4 : codeBlocksGo 7 4 = true := by decide +kernel
theorem codeBlocks_7_5 : codeBlocksGo 7 5 = true := by decide +kernel
end Go.Proofs.Ytlnjikneepgpaaa.Fin
