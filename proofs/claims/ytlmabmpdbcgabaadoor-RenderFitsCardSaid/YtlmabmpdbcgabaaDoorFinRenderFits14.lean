/- Cases of the law RenderFits, each run in the kernel. -/
import Derived.Test.YtlmabmpdbcgabaaDoorFinRenderFitsB
namespace Go.Proofs.YtlmabmpdbcgabaaDoor.Fin
open Go.Proofs.YtlmabmpdbcgabaaDoor.Fast Go.RowKit
set_option linter.unusedVariables false
set_option maxRecDepth 1000000
theorem renderFits_112 : alls (fun q => renderFitsGo 112 q) (List.range 11) = true := by decide +kernel
theorem renderFits_113 : alls (fun q => renderFitsGo 113 q) (List.range 11) = true := by decide +kernel
theorem renderFits_114 : alls (fun q => renderFitsGo 114 q) (List.range 11) = true := by decide +kernel
theorem renderFits_115 : alls (fun q => renderFitsGo 115 q) (List.range 11) = true := by decide +kernel
theorem renderFits_116 : alls (fun q => renderFitsGo 116 q) (List.range 11) = true := by decide +kernel
theorem renderFits_117 : alls (fun q => renderFitsGo 117 q) (List.range 11) = true := by decide +kernel
theorem renderFits_118 : alls (fun q => renderFitsGo 118 q) (List.range 11) = true := by decide +kernel
theorem renderFits_119 : alls (fun q => renderFitsGo 119 q) (List.range 11) = true := by decide +kernel
end Go.Proofs.YtlmabmpdbcgabaaDoor.Fin
