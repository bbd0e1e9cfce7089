/- Cases of the law RenderFits, each run in the kernel. -/
import Derived.Test.YtlmabmpdbcgabaaDoorFinRenderFitsB
namespace Go.Proofs.YtlmabmpdbcgabaaDoor.Fin
open Go.Proofs.YtlmabmpdbcgabaaDoor.Fast Go.RowKit
set_option linter.unusedVariables false
set_option maxRecDepth 1000000
theorem renderFits_136 : alls (fun q => renderFitsGo 136 q) (List.range 11) = true := by decide +kernel
theorem renderFits_137 : alls (fun q => renderFitsGo 137 q) (List.range 11) = true := by decide +kernel
theorem renderFits_138 : alls (fun q => renderFitsGo 138 q) (List.range 11) = true := by decide +kernel
theorem renderFits_139 : alls (fun q => renderFitsGo 139 q) (List.range 11) = true := by decide +kernel
theorem renderFits_140 : alls (fun q => renderFitsGo 140 q) (List.range 11) = true := by decide +kernel
theorem renderFits_141 : alls (fun q => renderFitsGo 141 q) (List.range 11) = true := by decide +kernel
theorem renderFits_142 : alls (fun q => renderFitsGo 142 q) (List.range 11) = true := by decide +kernel
theorem renderFits_143 : alls (fun q => renderFitsGo 143 q) (List.range 11) = true := by decide +kernel
end Go.Proofs.YtlmabmpdbcgabaaDoor.Fin
