/- Cases of the law RenderFits, each run in the kernel. -/
import Derived.Test.YtlmabmpdbcgabaaDoorFinRenderFitsB
namespace Go.Proofs.YtlmabmpdbcgabaaDoor.Fin
open Go.Proofs.YtlmabmpdbcgabaaDoor.Fast Go.RowKit
set_option linter.unusedVariables false
set_option maxRecDepth 1000000
theorem renderFits_144 : alls (fun q => renderFitsGo 144 q) (List.range 11) = true := by decide +kernel
theorem renderFits_145 : alls (fun q => renderFitsGo 145 q) (List.range 11) = true := by decide +kernel
theorem renderFits_146 : alls (fun q => renderFitsGo 146 q) (List.range 11) = true := by decide +kernel
theorem renderFits_147 : alls (fun q => renderFitsGo 147 q) (List.range 11) = true := by decide +kernel
theorem renderFits_148 : alls (fun q => renderFitsGo 148 q) (List.range 11) = true := by decide +kernel
theorem renderFits_149 : alls (fun q => renderFitsGo 149 q) (List.range 11) = true := by decide +kernel
theorem renderFits_150 : alls (fun q => renderFitsGo 150 q) (List.range 11) = true := by decide +kernel
theorem renderFits_151 : alls (fun q => renderFitsGo 151 q) (List.range 11) = true := by decide +kernel
end Go.Proofs.YtlmabmpdbcgabaaDoor.Fin
