/- Cases of the law RenderFits, each run in the kernel. -/
import Derived.Test.YtlmabmpdbcgabaaDoorFinRenderFitsB
namespace Go.Proofs.YtlmabmpdbcgabaaDoor.Fin
open Go.Proofs.YtlmabmpdbcgabaaDoor.Fast Go.RowKit
set_option linter.unusedVariables false
set_option maxRecDepth 1000000
theorem renderFits_32 : alls (fun q => renderFitsGo 32 q) (List.range 11) = true := by decide +kernel
theorem renderFits_33 : alls (fun q => renderFitsGo 33 q) (List.range 11) = true := by decide +kernel
theorem renderFits_34 : alls (fun q => renderFitsGo 34 q) (List.range 11) = true := by decide +kernel
theorem renderFits_35 : alls (fun q => renderFitsGo 35 q) (List.range 11) = true := by decide +kernel
theorem renderFits_36 : alls (fun q => renderFitsGo 36 q) (List.range 11) = true := by decide +kernel
theorem renderFits_37 : alls (fun q => renderFitsGo 37 q) (List.range 11) = true := by decide +kernel
theorem renderFits_38 : alls (fun q => renderFitsGo 38 q) (List.range 11) = true := by decide +kernel
theorem renderFits_39 : alls (fun q => renderFitsGo 39 q) (List.range 11) = true := by decide +kernel
end Go.Proofs.YtlmabmpdbcgabaaDoor.Fin
