/- Cases of the law RenderFits, each run in the kernel. -/
import Derived.Test.YtlmabmpdbcgabaaDoorFinRenderFitsB
namespace Go.Proofs.YtlmabmpdbcgabaaDoor.Fin
open Go.Proofs.YtlmabmpdbcgabaaDoor.Fast Go.RowKit
set_option linter.unusedVariables false
set_option maxRecDepth 1000000
theorem renderFits_120 : alls (fun q => renderFitsGo 120 q) (List.range 11) = true := by decide +kernel
theorem renderFits_121 : alls (fun q => renderFitsGo 121 q) (List.range 11) = true := by decide +kernel
theorem renderFits_122 : alls (fun q => renderFitsGo 122 q) (List.range 11) = true := by decide +kernel
theorem renderFits_123 : alls (fun q => renderFitsGo 123 q) (List.range 11) = true := by decide +kernel
theorem renderFits_124 : alls (fun q => renderFitsGo 124 q) (List.range 11) = true := by decide +kernel
theorem renderFits_125 : alls (fun q => renderFitsGo 125 q) (List.range 11) = true := by decide +kernel
theorem renderFits_126 : alls (fun q => renderFitsGo 126 q) (List.range 11) = true := by decide +kernel
theorem renderFits_127 : alls (fun q => renderFitsGo 127 q) (List.range 11) = true := by decide +kernel
end Go.Proofs.YtlmabmpdbcgabaaDoor.Fin
