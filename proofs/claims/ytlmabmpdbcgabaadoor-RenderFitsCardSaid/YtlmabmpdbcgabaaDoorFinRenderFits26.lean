/- Cases of the law RenderFits, each run in the kernel. -/
import Derived.Test.YtlmabmpdbcgabaaDoorFinRenderFitsB
namespace Go.Proofs.YtlmabmpdbcgabaaDoor.Fin
open Go.Proofs.YtlmabmpdbcgabaaDoor.Fast Go.RowKit
set_option linter.unusedVariables false
set_option maxRecDepth 1000000
theorem renderFits_208 : alls (fun q => renderFitsGo 208 q) (List.range 11) = true := by decide +kernel
theorem renderFits_209 : alls (fun q => renderFitsGo 209 q) (List.range 11) = true := by decide +kernel
theorem renderFits_210 : alls (fun q => renderFitsGo 210 q) (List.range 11) = true := by decide +kernel
theorem renderFits_211 : alls (fun q => renderFitsGo 211 q) (List.range 11) = true := by decide +kernel
theorem renderFits_212 : alls (fun q => renderFitsGo 212 q) (List.range 11) = true := by decide +kernel
theorem renderFits_213 : alls (fun q => renderFitsGo 213 q) (List.range 11) = true := by decide +kernel
theorem renderFits_214 : alls (fun q => renderFitsGo 214 q) (List.range 11) = true := by decide +kernel
theorem renderFits_215 : alls (fun q => renderFitsGo 215 q) (List.range 11) = true := by decide +kernel
end Go.Proofs.YtlmabmpdbcgabaaDoor.Fin
