/- Cases of the law RenderFits, each run in the kernel. -/
import Derived.Test.YtlmabmpdbcgabaaDoorFinRenderFitsB
namespace Go.Proofs.YtlmabmpdbcgabaaDoor.Fin
open Go.Proofs.YtlmabmpdbcgabaaDoor.Fast Go.RowKit
set_option linter.unusedVariables false
set_option maxRecDepth 1000000
theorem renderFits_16 : alls (fun q => renderFitsGo 16 q) (List.range 11) = true := by decide +kernel
theorem renderFits_17 : alls (fun q => renderFitsGo 17 q) (List.range 11) = true := by decide +kernel
theorem renderFits_18 : alls (fun q => renderFitsGo 18 q) (List.range 11) = true := by decide +kernel
theorem renderFits_19 : alls (fun q => renderFitsGo 19 q) (List.range 11) = true := by decide +kernel
theorem renderFits_20 : alls (fun q => renderFitsGo 20 q) (List.range 11) = true := by decide +kernel
theorem renderFits_21 : alls (fun q => renderFitsGo 21 q) (List.range 11) = true := by decide +kernel
theorem renderFits_22 : alls (fun q => renderFitsGo 22 q) (List.range 11) = true := by decide +kernel
theorem renderFits_23 : alls (fun q => renderFitsGo 23 q) (List.range 11) = true := by decide +kernel
end Go.Proofs.YtlmabmpdbcgabaaDoor.Fin
