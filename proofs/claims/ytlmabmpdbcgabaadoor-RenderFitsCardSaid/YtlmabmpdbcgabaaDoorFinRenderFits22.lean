/- Cases of the law RenderFits, each run in the kernel. -/
import Derived.Test.YtlmabmpdbcgabaaDoorFinRenderFitsB
namespace Go.Proofs.YtlmabmpdbcgabaaDoor.Fin
open Go.Proofs.YtlmabmpdbcgabaaDoor.Fast Go.RowKit
set_option linter.unusedVariables false
set_option maxRecDepth 1000000
theorem renderFits_176 : alls (fun q => renderFitsGo 176 q) (List.range 11) = true := by decide +kernel
theorem renderFits_177 : alls (fun q => renderFitsGo 177 q) (List.range 11) = true := by decide +kernel
theorem renderFits_178 : alls (fun q => renderFitsGo 178 q) (List.range 11) = true := by decide +kernel
theorem renderFits_179 : alls (fun q => renderFitsGo 179 q) (List.range 11) = true := by decide +kernel
theorem renderFits_180 : alls (fun q => renderFitsGo 180 q) (List.range 11) = true := by decide +kernel
theorem renderFits_181 : alls (fun q => renderFitsGo 181 q) (List.range 11) = true := by decide +kernel
theorem renderFits_182 : alls (fun q => renderFitsGo 182 q) (List.range 11) = true := by decide +kernel
theorem renderFits_183 : alls (fun q => renderFitsGo 183 q) (List.range 11) = true := by decide +kernel
end Go.Proofs.YtlmabmpdbcgabaaDoor.Fin
