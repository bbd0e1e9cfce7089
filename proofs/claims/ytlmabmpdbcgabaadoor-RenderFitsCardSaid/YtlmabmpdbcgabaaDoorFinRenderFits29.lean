/- Cases of the law RenderFits, each run in the kernel. -/
import Derived.Test.YtlmabmpdbcgabaaDoorFinRenderFitsB
namespace Go.Proofs.YtlmabmpdbcgabaaDoor.Fin
open Go.Proofs.YtlmabmpdbcgabaaDoor.Fast Go.RowKit
set_option linter.unusedVariables false
set_option maxRecDepth 1000000
theorem renderFits_232 : alls (fun q => renderFitsGo 232 q) (List.range 11) = true := by decide +kernel
theorem renderFits_233 : alls (fun q => renderFitsGo 233 q) (List.range 11) = true := by decide +kernel
theorem renderFits_234 : alls (fun q => renderFitsGo 234 q) (List.range 11) = true := by decide +kernel
theorem renderFits_235 : alls (fun q => renderFitsGo 235 q) (List.range 11) = true := by decide +kernel
theorem renderFits_236 : alls (fun q => renderFitsGo 236 q) (List.range 11) = true := by decide +kernel
theorem renderFits_237 : alls (fun q => renderFitsGo 237 q) (List.range 11) = true := by decide +kernel
theorem renderFits_238 : alls (fun q => renderFitsGo 238 q) (List.range 11) = true := by decide +kernel
theorem renderFits_239 : alls (fun q => renderFitsGo 239 q) (List.range 11) = true := by decide +kernel
end Go.Proofs.YtlmabmpdbcgabaaDoor.Fin
