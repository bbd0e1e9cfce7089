/- Cases of the law RenderFits, each run in the kernel. -/
import Derived.Test.YtlmabmpdbcgabaaDoorFinRenderFitsB
namespace Go.Proofs.YtlmabmpdbcgabaaDoor.Fin
open Go.Proofs.YtlmabmpdbcgabaaDoor.Fast Go.RowKit
set_option linter.unusedVariables false
set_option maxRecDepth 1000000
theorem renderFits_64 : alls (fun q => renderFitsGo 64 q) (List.range 11) = true := by decide +kernel
theorem renderFits_65 : alls (fun q => renderFitsGo 65 q) (List.range 11) = true := by decide +kernel
theorem renderFits_66 : alls (fun q => renderFitsGo 66 q) (List.range 11) = true := by decide +kernel
theorem renderFits_67 : alls (fun q => renderFitsGo 67 q) (List.range 11) = true := by decide +kernel
theorem renderFits_68 : alls (fun q => renderFitsGo 68 q) (List.range 11) = true := by decide +kernel
theorem renderFits_69 : alls (fun q => renderFitsGo 69 q) (List.range 11) = true := by decide +kernel
theorem renderFits_70 : alls (fun q => renderFitsGo 70 q) (List.range 11) = true := by decide +kernel
theorem renderFits_71 : alls (fun q => renderFitsGo 71 q) (List.range 11) = true := by decide +kernel
end Go.Proofs.YtlmabmpdbcgabaaDoor.Fin
