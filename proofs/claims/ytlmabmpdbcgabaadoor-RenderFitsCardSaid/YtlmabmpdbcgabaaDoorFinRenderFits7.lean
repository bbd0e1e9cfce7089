/- Cases of the law RenderFits, each run in the kernel. -/
import Derived.Test.YtlmabmpdbcgabaaDoorFinRenderFitsB
namespace Go.Proofs.YtlmabmpdbcgabaaDoor.Fin
open Go.Proofs.YtlmabmpdbcgabaaDoor.Fast Go.RowKit
set_option linter.unusedVariables false
set_option maxRecDepth 1000000
theorem renderFits_56 : alls (fun q => renderFitsGo 56 q) (List.range 11) = true := by decide +kernel
theorem renderFits_57 : alls (fun q => renderFitsGo 57 q) (List.range 11) = true := by decide +kernel
theorem renderFits_58 : alls (fun q => renderFitsGo 58 q) (List.range 11) = true := by decide +kernel
theorem renderFits_59 : alls (fun q => renderFitsGo 59 q) (List.range 11) = true := by decide +kernel
theorem renderFits_60 : alls (fun q => renderFitsGo 60 q) (List.range 11) = true := by decide +kernel
theorem renderFits_61 : alls (fun q => renderFitsGo 61 q) (List.range 11) = true := by decide +kernel
theorem renderFits_62 : alls (fun q => renderFitsGo 62 q) (List.range 11) = true := by decide +kernel
theorem renderFits_63 : alls (fun q => renderFitsGo 63 q) (List.range 11) = true := by decide +kernel
end Go.Proofs.YtlmabmpdbcgabaaDoor.Fin
