/- Cases of the law RenderFits, each run in the kernel. -/
import Derived.Test.YtlmabmpdbcgabaaDoorFinRenderFitsB
namespace Go.Proofs.YtlmabmpdbcgabaaDoor.Fin
open Go.Proofs.YtlmabmpdbcgabaaDoor.Fast Go.RowKit
set_option linter.unusedVariables false
set_option maxRecDepth 1000000
theorem renderFits_72 : alls (fun q => renderFitsGo 72 q) (List.range 11) = true := by decide +kernel
theorem renderFits_73 : alls (fun q => renderFitsGo 73 q) (List.range 11) = true := by decide +kernel
theorem renderFits_74 : alls (fun q => renderFitsGo 74 q) (List.range 11) = true := by decide +kernel
theorem renderFits_75 : alls (fun q => renderFitsGo 75 q) (List.range 11) = true := by decide +kernel
theorem renderFits_76 : alls (fun q => renderFitsGo 76 q) (List.range 11) = true := by decide +kernel
theorem renderFits_77 : alls (fun q => renderFitsGo 77 q) (List.range 11) = true := by decide +kernel
theorem renderFits_78 : alls (fun q => renderFitsGo 78 q) (List.range 11) = true := by decide +kernel
theorem renderFits_79 : alls (fun q => renderFitsGo 79 q) (List.range 11) = true := by decide +kernel
end Go.Proofs.YtlmabmpdbcgabaaDoor.Fin
