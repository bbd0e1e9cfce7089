/- Cases of the law RenderFits, each run in the kernel. -/
import Derived.Test.YtlmabmpdbcgabaaDoorFinRenderFitsB
namespace Go.Proofs.YtlmabmpdbcgabaaDoor.Fin
open Go.Proofs.YtlmabmpdbcgabaaDoor.Fast Go.RowKit
set_option linter.unusedVariables false
set_option maxRecDepth 1000000
theorem renderFits_24 : alls (fun q => renderFitsGo 24 q) (List.range 11) = true := by decide +kernel
theorem renderFits_25 : alls (fun q => renderFitsGo 25 q) (List.range 11) = true := by decide +kernel
theorem renderFits_26 : alls (fun q => renderFitsGo 26 q) (List.range 11) = true := by decide +kernel
theorem renderFits_27 : alls (fun q => renderFitsGo 27 q) (List.range 11) = true := by decide +kernel
theorem renderFits_28 : alls (fun q => renderFitsGo 28 q) (List.range 11) = true := by decide +kernel
theorem renderFits_29 : alls (fun q => renderFitsGo 29 q) (List.range 11) = true := by decide +kernel
theorem renderFits_30 : alls (fun q => renderFitsGo 30 q) (List.range 11) = true := by decide +kernel
theorem renderFits_31 : alls (fun q => renderFitsGo 31 q) (List.range 11) = true := by decide +kernel
end Go.Proofs.YtlmabmpdbcgabaaDoor.Fin
