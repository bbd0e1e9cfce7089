/- Cases of the law RenderFits, each run in the kernel. -/
import Derived.Test.YtlmabmpdbcgabaaDoorFinRenderFitsB
namespace Go.Proofs.YtlmabmpdbcgabaaDoor.Fin
open Go.Proofs.YtlmabmpdbcgabaaDoor.Fast Go.RowKit
set_option linter.unusedVariables false
set_option maxRecDepth 1000000
theorem renderFits_216 : alls (fun q => renderFitsGo 216 q) (List.range 11) = true := by decide +kernel
theorem renderFits_217 : alls (fun q => renderFitsGo 217 q) (List.range 11) = true := by decide +kernel
theorem renderFits_218 : alls (fun q => renderFitsGo 218 q) (List.range 11) = true := by decide +kernel
theorem renderFits_219 : alls (fun q => renderFitsGo 219 q) (List.range 11) = true := by decide +kernel
theorem renderFits_220 : alls (fun q => renderFitsGo 220 q) (List.range 11) = true := by decide +kernel
theorem renderFits_221 : alls (fun q => renderFitsGo 221 q) (List.range 11) = true := by decide +kernel
theorem renderFits_222 : alls (fun q => renderFitsGo 222 q) (List.range 11) = true := by decide +kernel
theorem renderFits_223 : alls (fun q => renderFitsGo 223 q) (List.range 11) = true := by decide +kernel
end Go.Proofs.YtlmabmpdbcgabaaDoor.Fin
