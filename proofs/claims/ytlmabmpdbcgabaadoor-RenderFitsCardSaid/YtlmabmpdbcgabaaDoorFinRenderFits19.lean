/- Cases of the law RenderFits, each run in the kernel. -/
import Derived.Test.YtlmabmpdbcgabaaDoorFinRenderFitsB
namespace Go.Proofs.YtlmabmpdbcgabaaDoor.Fin
open Go.Proofs.YtlmabmpdbcgabaaDoor.Fast Go.RowKit
set_option linter.unusedVariables false
set_option maxRecDepth 1000000
theorem renderFits_152 : alls (fun q => renderFitsGo 152 q) (List.range 11) = true := by decide +kernel
theorem renderFits_153 : alls (fun q => renderFitsGo 153 q) (List.range 11) = true := by decide +kernel
theorem renderFits_154 : alls (fun q => renderFitsGo 154 q) (List.range 11) = true := by decide +kernel
theorem renderFits_155 : alls (fun q => renderFitsGo 155 q) (List.range 11) = true := by decide +kernel
theorem renderFits_156 : alls (fun q => renderFitsGo 156 q) (List.range 11) = true := by decide +kernel
theorem renderFits_157 : alls (fun q => renderFitsGo 157 q) (List.range 11) = true := by decide +kernel
theorem renderFits_158 : alls (fun q => renderFitsGo 158 q) (List.range 11) = true := by decide +kernel
theorem renderFits_159 : alls (fun q => renderFitsGo 159 q) (List.range 11) = true := by decide +kernel
end Go.Proofs.YtlmabmpdbcgabaaDoor.Fin
