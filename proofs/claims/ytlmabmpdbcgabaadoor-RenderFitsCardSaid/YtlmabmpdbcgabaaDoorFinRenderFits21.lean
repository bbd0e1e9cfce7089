/- Cases of the law RenderFits, each run in the kernel. -/
import Derived.Test.YtlmabmpdbcgabaaDoorFinRenderFitsB
namespace Go.Proofs.YtlmabmpdbcgabaaDoor.Fin
open Go.Proofs.YtlmabmpdbcgabaaDoor.Fast Go.RowKit
set_option linter.unusedVariables false
set_option maxRecDepth 1000000
theorem renderFits_168 : alls (fun q => renderFitsGo 168 q) (List.range 11) = true := by decide +kernel
theorem renderFits_169 : alls (fun q => renderFitsGo 169 q) (List.range 11) = true := by decide +kernel
theorem renderFits_170 : alls (fun q => renderFitsGo 170 q) (List.range 11) = true := by decide +kernel
theorem renderFits_171 : alls (fun q => renderFitsGo 171 q) (List.range 11) = true := by decide +kernel
theorem renderFits_172 : alls (fun q => renderFitsGo 172 q) (List.range 11) = true := by decide +kernel
theorem renderFits_173 : alls (fun q => renderFitsGo 173 q) (List.range 11) = true := by decide +kernel
theorem renderFits_174 : alls (fun q => renderFitsGo 174 q) (List.range 11) = true := by decide +kernel
theorem renderFits_175 : alls (fun q => renderFitsGo 175 q) (List.range 11) = true := by decide +kernel
end Go.Proofs.YtlmabmpdbcgabaaDoor.Fin
