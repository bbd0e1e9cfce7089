/- Cases of the law RenderFits, each run in the kernel. -/
import Derived.Test.YtlmabmpdbcgabaaDoorFinRenderFitsB
namespace Go.Proofs.YtlmabmpdbcgabaaDoor.Fin
open Go.Proofs.YtlmabmpdbcgabaaDoor.Fast Go.RowKit
set_option linter.unusedVariables false
set_option maxRecDepth 1000000
theorem renderFits_128 : alls (fun q => renderFitsGo 128 q) (List.range 11) = true := by decide +kernel
theorem renderFits_129 : alls (fun q => renderFitsGo 129 q) (List.range 11) = true := by decide +kernel
theorem renderFits_130 : alls (fun q => renderFitsGo 130 q) (List.range 11) = true := by decide +kernel
theorem renderFits_131 : alls (fun q => renderFitsGo 131 q) (List.range 11) = true := by decide +kernel
theorem renderFits_132 : alls (fun q => renderFitsGo 132 q) (List.range 11) = true := by decide +kernel
theorem renderFits_133 : alls (fun q => renderFitsGo 133 q) (List.range 11) = true := by decide +kernel
theorem renderFits_134 : alls (fun q => renderFitsGo 134 q) (List.range 11) = true := by decide +kernel
theorem renderFits_135 : alls (fun q => renderFitsGo 135 q) (List.range 11) = true := by decide +kernel
end Go.Proofs.YtlmabmpdbcgabaaDoor.Fin
