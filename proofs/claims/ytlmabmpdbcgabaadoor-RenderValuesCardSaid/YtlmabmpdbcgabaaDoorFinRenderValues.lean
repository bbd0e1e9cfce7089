/- The law RenderValues: each case of it, and with them its walk. -/
import Derived.Test.YtlmabmpdbcgabaaDoorFinRenderValues0
import Derived.Test.YtlmabmpdbcgabaaDoorFinRenderValues1
import Derived.Test.YtlmabmpdbcgabaaDoorFinRenderValues2
import Derived.Test.YtlmabmpdbcgabaaDoorFinRenderValues3
import Derived.Test.YtlmabmpdbcgabaaDoorFinRenderValues4
import Derived.Test.YtlmabmpdbcgabaaDoorFinRenderValues5
import Derived.Test.YtlmabmpdbcgabaaDoorFinRenderValues6
import Derived.Test.YtlmabmpdbcgabaaDoorFinRenderValues7
import Derived.Test.YtlmabmpdbcgabaaDoorFinRenderValues8
namespace Go.Proofs.YtlmabmpdbcgabaaDoor.Fin
open Go.Proofs.YtlmabmpdbcgabaaDoor.Fast Go.RowKit
set_option linter.unusedVariables false

theorem renderValues_all (r0 : Nat) (b1 : Bool) (h0 : r0 < 9) : renderValuesGo r0 b1 = true := by
  match r0, h0 with
  | 0, _ =>
    cases b1 with
    | false =>
      exact renderValues_0_false
    | true =>
      exact renderValues_0_true
  | 1, _ =>
    cases b1 with
    | false =>
      exact renderValues_1_false
    | true =>
      exact renderValues_1_true
  | 2, _ =>
    cases b1 with
    | false =>
      exact renderValues_2_false
    | true =>
      exact renderValues_2_true
  | 3, _ =>
    cases b1 with
    | false =>
      exact renderValues_3_false
    | true =>
      exact renderValues_3_true
  | 4, _ =>
    cases b1 with
    | false =>
      exact renderValues_4_false
    | true =>
      exact renderValues_4_true
  | 5, _ =>
    cases b1 with
    | false =>
      exact renderValues_5_false
    | true =>
      exact renderValues_5_true
  | 6, _ =>
    cases b1 with
    | false =>
      exact renderValues_6_false
    | true =>
      exact renderValues_6_true
  | 7, _ =>
    cases b1 with
    | false =>
      exact renderValues_7_false
    | true =>
      exact renderValues_7_true
  | 8, _ =>
    cases b1 with
    | false =>
      exact renderValues_8_false
    | true =>
      exact renderValues_8_true
  | n + 9, h => exact absurd h (by omega)
theorem renderValues_walk (a0 : Int) (b1 : Bool) (w : World) (w0 : (Lit.int .i64 a0).wf = true) (hm : ∃ m, w.cell? ⟨0, 0, none⟩ = some (.int .i64 m)) : Calls Tryd.prog 4 #[Value.int .i64 a0, Value.bool b1] w fun e w' => e = .returned (.bool true) ∧ Below w.heap.size w w' := by
  obtain ⟨r0, h0, e0⟩ := mod_cases a0 9 (by decide)
  exact fin_idx (fun _ => a0) hm (fun fn h => by rw [Tryd.func4] at h; obtain rfl := Option.some.inj h; rfl) (fun _ => w0) (tab1_ok (by decide) (by decide) e0) (.cons _ _ _ _ (.sym 0) (.cons _ _ _ _ (.bool _) .nil)) (renderValues_all r0 b1 h0)
end Go.Proofs.YtlmabmpdbcgabaaDoor.Fin
