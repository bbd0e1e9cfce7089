/- Cases of the law RenderFits, each run in the kernel. -/
import Derived.Test.YtlmabmpdbcgabaaDoorFinRenderFitsB
namespace Go.Proofs.YtlmabmpdbcgabaaDoor.Fin
open Go.Proofs.YtlmabmpdbcgabaaDoor.Fast Go.RowKit
set_option linter.unusedVariables false
set_option maxRecDepth 1000000
theorem renderFits_48 : alls (fun q => renderFitsGo 48 q) (List.range 11) = true := by decide +kernel
theorem renderFits_49 : alls (fun q => renderFitsGo 49 q) (List.range 11) = true := by decide +kernel
theorem renderFits_50 : alls (fun q => renderFitsGo 50 q) (List.range 11) = true := by decide +kernel
theorem renderFits_51 : alls (fun q => renderFitsGo 51 q) (List.range 11) = true := by decide +kernel
theorem renderFits_52 : alls (fun q => renderFitsGo 52 q) (List.range 11) = true := by decide +kernel
theorem renderFits_53 : alls (fun q => renderFitsGo 53 q) (List.range 11) = true := by decide +kernel
theorem renderFits_54 : alls (fun q => renderFitsGo 54 q) (List.range 11) = true := by decide +kernel
theorem renderFits_55 : alls (fun q => renderFitsGo 55 q) (List.range 11) = true := by decide +kernel
end Go.Proofs.YtlmabmpdbcgabaaDoor.Fin
