/- Cases of the law RenderFits, each run in the kernel. -/
import Derived.Test.YtlmabmpdbcgabaaDoorFinRenderFitsB
namespace Go.Proofs.YtlmabmpdbcgabaaDoor.Fin
open Go.Proofs.YtlmabmpdbcgabaaDoor.Fast Go.RowKit
set_option linter.unusedVariables false
set_option maxRecDepth 1000000
theorem renderFits_192 : alls (fun q => renderFitsGo 192 q) (List.range 11) = true := by decide +kernel
theorem renderFits_193 : alls (fun q => renderFitsGo 193 q) (List.range 11) = true := by decide +kernel
theorem renderFits_194 : alls (fun q => renderFitsGo 194 q) (List.range 11) = true := by decide +kernel
theorem renderFits_195 : alls (fun q => renderFitsGo 195 q) (List.range 11) = true := by decide +kernel
theorem renderFits_196 : alls (fun q => renderFitsGo 196 q) (List.range 11) = true := by decide +kernel
theorem renderFits_197 : alls (fun q => renderFitsGo 197 q) (List.range 11) = true := by decide +kernel
theorem renderFits_198 : alls (fun q => renderFitsGo 198 q) (List.range 11) = true := by decide +kernel
theorem renderFits_199 : alls (fun q => renderFitsGo 199 q) (List.range 11) = true := by decide +kernel
end Go.Proofs.YtlmabmpdbcgabaaDoor.Fin
