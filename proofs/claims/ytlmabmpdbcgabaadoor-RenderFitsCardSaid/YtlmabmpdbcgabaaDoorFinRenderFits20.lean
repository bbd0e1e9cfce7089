/- Cases of the law RenderFits, each run in the kernel. -/
import Derived.Test.YtlmabmpdbcgabaaDoorFinRenderFitsB
namespace Go.Proofs.YtlmabmpdbcgabaaDoor.Fin
open Go.Proofs.YtlmabmpdbcgabaaDoor.Fast Go.RowKit
set_option linter.unusedVariables false
set_option maxRecDepth 1000000
theorem renderFits_160 : alls (fun q => renderFitsGo 160 q) (List.range 11) = true := by decide +kernel
theorem renderFits_161 : alls (fun q => renderFitsGo 161 q) (List.range 11) = true := by decide +kernel
theorem renderFits_162 : alls (fun q => renderFitsGo 162 q) (List.range 11) = true := by decide +kernel
theorem renderFits_163 : alls (fun q => renderFitsGo 163 q) (List.range 11) = true := by decide +kernel
theorem renderFits_164 : alls (fun q => renderFitsGo 164 q) (List.range 11) = true := by decide +kernel
theorem renderFits_165 : alls (fun q => renderFitsGo 165 q) (List.range 11) = true := by decide +kernel
theorem renderFits_166 : alls (fun q => renderFitsGo 166 q) (List.range 11) = true := by decide +kernel
theorem renderFits_167 : alls (fun q => renderFitsGo 167 q) (List.range 11) = true := by decide +kernel
end Go.Proofs.YtlmabmpdbcgabaaDoor.Fin
