/- Cases of the law RenderFits, each run in the kernel. -/
import Derived.Test.YtlmabmpdbcgabaaDoorFinRenderFitsB
namespace Go.Proofs.YtlmabmpdbcgabaaDoor.Fin
open Go.Proofs.YtlmabmpdbcgabaaDoor.Fast Go.RowKit
set_option linter.unusedVariables false
set_option maxRecDepth 1000000
theorem renderFits_248 : alls (fun q => renderFitsGo 248 q) (List.range 11) = true := by decide +kernel
theorem renderFits_249 : alls (fun q => renderFitsGo 249 q) (List.range 11) = true := by decide +kernel
theorem renderFits_250 : alls (fun q => renderFitsGo 250 q) (List.range 11) = true := by decide +kernel
theorem renderFits_251 : alls (fun q => renderFitsGo 251 q) (List.range 11) = true := by decide +kernel
theorem renderFits_252 : alls (fun q => renderFitsGo 252 q) (List.range 11) = true := by decide +kernel
theorem renderFits_253 : alls (fun q => renderFitsGo 253 q) (List.range 11) = true := by decide +kernel
theorem renderFits_254 : alls (fun q => renderFitsGo 254 q) (List.range 11) = true := by decide +kernel
theorem renderFits_255 : alls (fun q => renderFitsGo 255 q) (List.range 11) = true := by decide +kernel
end Go.Proofs.YtlmabmpdbcgabaaDoor.Fin
