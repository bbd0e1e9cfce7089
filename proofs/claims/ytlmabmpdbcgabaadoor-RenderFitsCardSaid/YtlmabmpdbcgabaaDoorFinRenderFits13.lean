/- Cases of the law RenderFits, each run in the kernel. -/
import Derived.Test.YtlmabmpdbcgabaaDoorFinRenderFitsB
namespace Go.Proofs.YtlmabmpdbcgabaaDoor.Fin
open Go.Proofs.YtlmabmpdbcgabaaDoor.Fast Go.RowKit
set_option linter.unusedVariables false
set_option maxRecDepth 1000000
theorem renderFits_104 : alls (fun q => renderFitsGo 104 q) (List.range 11) = true := by decide +kernel
theorem renderFits_105 : alls (fun q => renderFitsGo 105 q) (List.range 11) = true := by decide +kernel
theorem renderFits_106 : alls (fun q => renderFitsGo 106 q) (List.range 11) = true := by decide +kernel
theorem renderFits_107 : alls (fun q => renderFitsGo 107 q) (List.range 11) = true := by decide +kernel
theorem renderFits_108 : alls (fun q => renderFitsGo 108 q) (List.range 11) = true := by decide +kernel
theorem renderFits_109 : alls (fun q => renderFitsGo 109 q) (List.range 11) = true := by decide +kernel
theorem renderFits_110 : alls (fun q => renderFitsGo 110 q) (List.range 11) = true := by decide +kernel
theorem renderFits_111 : alls (fun q => renderFitsGo 111 q) (List.range 11) = true := by decide +kernel
end Go.Proofs.YtlmabmpdbcgabaaDoor.Fin
