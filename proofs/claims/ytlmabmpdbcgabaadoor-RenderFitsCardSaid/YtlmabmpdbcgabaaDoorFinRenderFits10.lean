/- Cases of the law RenderFits, each run in the kernel. -/
import Derived.Test.YtlmabmpdbcgabaaDoorFinRenderFitsB
namespace Go.Proofs.YtlmabmpdbcgabaaDoor.Fin
open Go.Proofs.YtlmabmpdbcgabaaDoor.Fast Go.RowKit
set_option linter.unusedVariables false
set_option maxRecDepth 1000000
theorem renderFits_80 : alls (fun q => renderFitsGo 80 q) (List.range 11) = true := by decide +kernel
theorem renderFits_81 : alls (fun q => renderFitsGo 81 q) (List.range 11) = true := by decide +kernel
theorem renderFits_82 : alls (fun q => renderFitsGo 82 q) (List.range 11) = true := by decide +kernel
theorem renderFits_83 : alls (fun q => renderFitsGo 83 q) (List.range 11) = true := by decide +kernel
theorem renderFits_84 : alls (fun q => renderFitsGo 84 q) (List.range 11) = true := by decide +kernel
theorem renderFits_85 : alls (fun q => renderFitsGo 85 q) (List.range 11) = true := by decide +kernel
theorem renderFits_86 : alls (fun q => renderFitsGo 86 q) (List.range 11) = true := by decide +kernel
theorem renderFits_87 : alls (fun q => renderFitsGo 87 q) (List.range 11) = true := by decide +kernel
end Go.Proofs.YtlmabmpdbcgabaaDoor.Fin
