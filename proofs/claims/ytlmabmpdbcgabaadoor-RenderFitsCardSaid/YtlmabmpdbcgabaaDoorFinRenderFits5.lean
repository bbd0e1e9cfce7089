/- Cases of the law RenderFits, each run in the kernel. -/
import Derived.Test.YtlmabmpdbcgabaaDoorFinRenderFitsB
namespace Go.Proofs.YtlmabmpdbcgabaaDoor.Fin
open Go.Proofs.YtlmabmpdbcgabaaDoor.Fast Go.RowKit
set_option linter.unusedVariables false
set_option maxRecDepth 1000000
theorem renderFits_40 : alls (fun q => renderFitsGo 40 q) (List.range 11) = true := by decide +kernel
theorem renderFits_41 : alls (fun q => renderFitsGo 41 q) (List.range 11) = true := by decide +kernel
theorem renderFits_42 : alls (fun q => renderFitsGo 42 q) (List.range 11) = true := by decide +kernel
theorem renderFits_43 : alls (fun q => renderFitsGo 43 q) (List.range 11) = true := by decide +kernel
theorem renderFits_44 : alls (fun q => renderFitsGo 44 q) (List.range 11) = true := by decide +kernel
theorem renderFits_45 : alls (fun q => renderFitsGo 45 q) (List.range 11) = true := by decide +kernel
theorem renderFits_46 : alls (fun q => renderFitsGo 46 q) (List.range 11) = true := by decide +kernel
theorem renderFits_47 : alls (fun q => renderFitsGo 47 q) (List.range 11) = true := by decide +kernel
end Go.Proofs.YtlmabmpdbcgabaaDoor.Fin
