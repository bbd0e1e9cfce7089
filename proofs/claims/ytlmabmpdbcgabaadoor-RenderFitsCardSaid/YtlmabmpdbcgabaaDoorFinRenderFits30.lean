/- Cases of the law RenderFits, each run in the kernel. -/
import Derived.Test.YtlmabmpdbcgabaaDoorFinRenderFitsB
namespace Go.Proofs.YtlmabmpdbcgabaaDoor.Fin
open Go.Proofs.YtlmabmpdbcgabaaDoor.Fast Go.RowKit
set_option linter.unusedVariables false
set_option maxRecDepth 1000000
theorem renderFits_240 : alls (fun q => renderFitsGo 240 q) (List.range 11) = true := by decide +kernel
theorem renderFits_241 : alls (fun q => renderFitsGo 241 q) (List.range 11) = true := by decide +kernel
theorem renderFits_242 : alls (fun q => renderFitsGo 242 q) (List.range 11) = true := by decide +kernel
theorem renderFits_243 : alls (fun q => renderFitsGo 243 q) (List.range 11) = true := by decide +kernel
theorem renderFits_244 : alls (fun q => renderFitsGo 244 q) (List.range 11) = true := by decide +kernel
theorem renderFits_245 : alls (fun q => renderFitsGo 245 q) (List.range 11) = true := by decide +kernel
theorem renderFits_246 : alls (fun q => renderFitsGo 246 q) (List.range 11) = true := by decide +kernel
theorem renderFits_247 : alls (fun q => renderFitsGo 247 q) (List.range 11) = true := by decide +kernel
end Go.Proofs.YtlmabmpdbcgabaaDoor.Fin
