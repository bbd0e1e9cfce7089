/- Cases of the law RenderFits, each run in the kernel. -/
import Derived.Test.YtlmabmpdbcgabaaDoorFinRenderFitsB
namespace Go.Proofs.YtlmabmpdbcgabaaDoor.Fin
open Go.Proofs.YtlmabmpdbcgabaaDoor.Fast Go.RowKit
set_option linter.unusedVariables false
set_option maxRecDepth 1000000
theorem renderFits_0 : alls (fun q => renderFitsGo 0 q) (List.range 11) = true := by decide +kernel
theorem renderFits_1 : alls (fun q => renderFitsGo 1 q) (List.range 11) = true := by decide +kernel
theorem renderFits_2 : alls (fun q => renderFitsGo 2 q) (List.range 11) = true := by decide +kernel
theorem renderFits_3 : alls (fun q => renderFitsGo 3 q) (List.range 11) = true := by decide +kernel
theorem renderFits_4 : alls (fun q => renderFitsGo 4 q) (List.range 11) = true := by decide +kernel
theorem renderFits_5 : alls (fun q => renderFitsGo 5 q) (List.range 11) = true := by decide +kernel
theorem renderFits_6 : alls (fun q => renderFitsGo 6 q) (List.range 11) = true := by decide +kernel
theorem renderFits_7 : alls (fun q => renderFitsGo 7 q) (List.range 11) = true := by decide +kernel
end Go.Proofs.YtlmabmpdbcgabaaDoor.Fin
