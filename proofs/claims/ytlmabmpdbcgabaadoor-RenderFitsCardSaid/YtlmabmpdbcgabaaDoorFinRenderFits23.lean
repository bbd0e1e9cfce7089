/- Cases of the law RenderFits, each run in the kernel. -/
import Derived.Test.YtlmabmpdbcgabaaDoorFinRenderFitsB
namespace Go.Proofs.YtlmabmpdbcgabaaDoor.Fin
open Go.Proofs.YtlmabmpdbcgabaaDoor.Fast Go.RowKit
set_option linter.unusedVariables false
set_option maxRecDepth 1000000
theorem renderFits_184 : alls (fun q => renderFitsGo 184 q) (List.range 11) = true := by decide +kernel
theorem renderFits_185 : alls (fun q => renderFitsGo 185 q) (List.range 11) = true := by decide +kernel
theorem renderFits_186 : alls (fun q => renderFitsGo 186 q) (List.range 11) = true := by decide +kernel
theorem renderFits_187 : alls (fun q => renderFitsGo 187 q) (List.range 11) = true := by decide +kernel
theorem renderFits_188 : alls (fun q => renderFitsGo 188 q) (List.range 11) = true := by decide +kernel
theorem renderFits_189 : alls (fun q => renderFitsGo 189 q) (List.range 11) = true := by decide +kernel
theorem renderFits_190 : alls (fun q => renderFitsGo 190 q) (List.range 11) = true := by decide +kernel
theorem renderFits_191 : alls (fun q => renderFitsGo 191 q) (List.range 11) = true := by decide +kernel
end Go.Proofs.YtlmabmpdbcgabaaDoor.Fin
