/- Cases of the law RenderFits, each run in the kernel. -/
import Derived.Test.YtlmabmpdbcgabaaDoorFinRenderFitsB
namespace Go.Proofs.YtlmabmpdbcgabaaDoor.Fin
open Go.Proofs.YtlmabmpdbcgabaaDoor.Fast Go.RowKit
set_option linter.unusedVariables false
set_option maxRecDepth 1000000
theorem renderFits_200 : alls (fun q => renderFitsGo 200 q) (List.range 11) = true := by decide +kernel
theorem renderFits_201 : alls (fun q => renderFitsGo 201 q) (List.range 11) = true := by decide +kernel
theorem renderFits_202 : alls (fun q => renderFitsGo 202 q) (List.range 11) = true := by decide +kernel
theorem renderFits_203 : alls (fun q => renderFitsGo 203 q) (List.range 11) = true := by decide +kernel
theorem renderFits_204 : alls (fun q => renderFitsGo 204 q) (List.range 11) = true := by decide +kernel
theorem renderFits_205 : alls (fun q => renderFitsGo 205 q) (List.range 11) = true := by decide +kernel
theorem renderFits_206 : alls (fun q => renderFitsGo 206 q) (List.range 11) = true := by decide +kernel
theorem renderFits_207 : alls (fun q => renderFitsGo 207 q) (List.range 11) = true := by decide +kernel
end Go.Proofs.YtlmabmpdbcgabaaDoor.Fin
