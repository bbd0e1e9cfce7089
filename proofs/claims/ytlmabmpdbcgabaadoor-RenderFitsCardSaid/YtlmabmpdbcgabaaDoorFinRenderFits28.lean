/- Cases of the law RenderFits, each run in the kernel. -/
import Derived.Test.YtlmabmpdbcgabaaDoorFinRenderFitsB
namespace Go.Proofs.YtlmabmpdbcgabaaDoor.Fin
open Go.Proofs.YtlmabmpdbcgabaaDoor.Fast Go.RowKit
set_option linter.unusedVariables false
set_option maxRecDepth 1000000
theorem renderFits_224 : alls (fun q => renderFitsGo 224 q) (List.range 11) = true := by decide +kernel
theorem renderFits_225 : alls (fun q => renderFitsGo 225 q) (List.range 11) = true := by decide +kernel
theorem renderFits_226 : alls (fun q => renderFitsGo 226 q) (List.range 11) = true := by decide +kernel
theorem renderFits_227 : alls (fun q => renderFitsGo 227 q) (List.range 11) = true := by decide +kernel
theorem renderFits_228 : alls (fun q => renderFitsGo 228 q) (List.range 11) = true := by decide +kernel
theorem renderFits_229 : alls (fun q => renderFitsGo 229 q) (List.range 11) = true := by decide +kernel
theorem renderFits_230 : alls (fun q => renderFitsGo 230 q) (List.range 11) = true := by decide +kernel
theorem renderFits_231 : alls (fun q => renderFitsGo 231 q) (List.range 11) = true := by decide +kernel
end Go.Proofs.YtlmabmpdbcgabaaDoor.Fin
