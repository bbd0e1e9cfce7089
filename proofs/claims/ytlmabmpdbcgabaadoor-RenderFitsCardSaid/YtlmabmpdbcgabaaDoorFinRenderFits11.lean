/- Cases of the law RenderFits, each run in the kernel. -/
import Derived.Test.YtlmabmpdbcgabaaDoorFinRenderFitsB
namespace Go.Proofs.YtlmabmpdbcgabaaDoor.Fin
open Go.Proofs.YtlmabmpdbcgabaaDoor.Fast Go.RowKit
set_option linter.unusedVariables false
set_option maxRecDepth 1000000
theorem renderFits_88 : alls (fun q => renderFitsGo 88 q) (List.range 11) = true := by decide +kernel
theorem renderFits_89 : alls (fun q => renderFitsGo 89 q) (List.range 11) = true := by decide +kernel
theorem renderFits_90 : alls (fun q => renderFitsGo 90 q) (List.range 11) = true := by decide +kernel
theorem renderFits_91 : alls (fun q => renderFitsGo 91 q) (List.range 11) = true := by decide +kernel
theorem renderFits_92 : alls (fun q => renderFitsGo 92 q) (List.range 11) = true := by decide +kernel
theorem renderFits_93 : alls (fun q => renderFitsGo 93 q) (List.range 11) = true := by decide +kernel
theorem renderFits_94 : alls (fun q => renderFitsGo 94 q) (List.range 11) = true := by decide +kernel
theorem renderFits_95 : alls (fun q => renderFitsGo 95 q) (List.range 11) = true := by decide +kernel
end Go.Proofs.YtlmabmpdbcgabaaDoor.Fin
