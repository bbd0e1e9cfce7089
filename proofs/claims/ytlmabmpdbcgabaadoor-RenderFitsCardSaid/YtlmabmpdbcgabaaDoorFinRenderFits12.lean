/- Cases of the law RenderFits, each run in the kernel. -/
import Derived.Test.YtlmabmpdbcgabaaDoorFinRenderFitsB
namespace Go.Proofs.YtlmabmpdbcgabaaDoor.Fin
open Go.Proofs.YtlmabmpdbcgabaaDoor.Fast Go.RowKit
set_option linter.unusedVariables false
set_option maxRecDepth 1000000
theorem renderFits_96 : alls (fun q => renderFitsGo 96 q) (List.range 11) = true := by decide +kernel
theorem renderFits_97 : alls (fun q => renderFitsGo 97 q) (List.range 11) = true := by decide +kernel
theorem renderFits_98 : alls (fun q => renderFitsGo 98 q) (List.range 11) = true := by decide +kernel
theorem renderFits_99 : alls (fun q => renderFitsGo 99 q) (List.range 11) = true := by decide +kernel
theorem renderFits_100 : alls (fun q => renderFitsGo 100 q) (List.range 11) = true := by decide +kernel
theorem renderFits_101 : alls (fun q => renderFitsGo 101 q) (List.range 11) = true := by decide +kernel
theorem renderFits_102 : alls (fun q => renderFitsGo 102 q) (List.range 11) = true := by decide +kernel
theorem renderFits_103 : alls (fun q => renderFitsGo 103 q) (List.range 11) = true := by decide +kernel
end Go.Proofs.YtlmabmpdbcgabaaDoor.Fin
