/- Cases of the law RenderFits, each run in the kernel. -/
import Derived.Test.YtlmabmpdbcgabaaDoorFinRenderFitsB
namespace Go.Proofs.YtlmabmpdbcgabaaDoor.Fin
open Go.Proofs.YtlmabmpdbcgabaaDoor.Fast Go.RowKit
set_option linter.unusedVariables false
set_option maxRecDepth 1000000
theorem renderFits_8 : alls (fun q => renderFitsGo 8 q) (List.range 11) = true := by decide +kernel
theorem renderFits_9 : alls (fun q => renderFitsGo 9 q) (List.range 11) = true := by decide +kernel
theorem renderFits_10 : alls (fun q => renderFitsGo 10 q) (List.range 11) = true := by decide +kernel
theorem renderFits_11 : alls (fun q => renderFitsGo 11 q) (List.range 11) = true := by decide +kernel
theorem renderFits_12 : alls (fun q => renderFitsGo 12 q) (List.range 11) = true := by decide +kernel
theorem renderFits_13 : alls (fun q => renderFitsGo 13 q) (List.range 11) = true := by decide +kernel
theorem renderFits_14 : alls (fun q => renderFitsGo 14 q) (List.range 11) = true := by decide +kernel
theorem renderFits_15 : alls (fun q => renderFitsGo 15 q) (List.range 11) = true := by decide +kernel
end Go.Proofs.YtlmabmpdbcgabaaDoor.Fin
