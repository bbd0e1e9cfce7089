/- The law RenderRules: each case of it, and with them its walk. -/
import Derived.Test.YtlmabmpdbcgabaaDoorFinRenderRules0
import Derived.Test.YtlmabmpdbcgabaaDoorFinRenderRules1
import Derived.Test.YtlmabmpdbcgabaaDoorFinRenderRules2
import Derived.Test.YtlmabmpdbcgabaaDoorFinRenderRules3
import Derived.Test.YtlmabmpdbcgabaaDoorFinRenderRules4
import Derived.Test.YtlmabmpdbcgabaaDoorFinRenderRules5
import Derived.Test.YtlmabmpdbcgabaaDoorFinRenderRules6
import Derived.Test.YtlmabmpdbcgabaaDoorFinRenderRules7
import Derived.Test.YtlmabmpdbcgabaaDoorFinRenderRules8
import Derived.Test.YtlmabmpdbcgabaaDoorFinRenderRules9
import Derived.Test.YtlmabmpdbcgabaaDoorFinRenderRules10
import Derived.Test.YtlmabmpdbcgabaaDoorFinRenderRules11
import Derived.Test.YtlmabmpdbcgabaaDoorFinRenderRules12
import Derived.Test.YtlmabmpdbcgabaaDoorFinRenderRules13
import Derived.Test.YtlmabmpdbcgabaaDoorFinRenderRules14
import Derived.Test.YtlmabmpdbcgabaaDoorFinRenderRules15
import Derived.Test.YtlmabmpdbcgabaaDoorFinRenderRules16
import Derived.Test.YtlmabmpdbcgabaaDoorFinRenderRules17
import Derived.Test.YtlmabmpdbcgabaaDoorFinRenderRules18
import Derived.Test.YtlmabmpdbcgabaaDoorFinRenderRules19
namespace Go.Proofs.YtlmabmpdbcgabaaDoor.Fin
open Go.Proofs.YtlmabmpdbcgabaaDoor.Fast Go.RowKit
set_option linter.unusedVariables false

theorem renderRules_all (r0 : Nat) (r1 : Nat) (r2 : Nat) (b3 : Bool) (h0 : r0 < 5) (h1 : r1 < 4) (h2 : r2 < 4) : renderRulesGo r0 r1 r2 b3 = true := by
  match r0, h0 with
  | 0, _ =>
    match r1, h1 with
    | 0, _ =>
      match r2, h2 with
      | 0, _ =>
        cases b3 with
        | false =>
          exact renderRules_0_0_0_false
        | true =>
          exact renderRules_0_0_0_true
      | 1, _ =>
        cases b3 with
        | false =>
          exact renderRules_0_0_1_false
        | true =>
          exact renderRules_0_0_1_true
      | 2, _ =>
        cases b3 with
        | false =>
          exact renderRules_0_0_2_false
        | true =>
          exact renderRules_0_0_2_true
      | 3, _ =>
        cases b3 with
        | false =>
          exact renderRules_0_0_3_false
        | true =>
          exact renderRules_0_0_3_true
      | n + 4, h => exact absurd h (by omega)
    | 1, _ =>
      match r2, h2 with
      | 0, _ =>
        cases b3 with
        | false =>
          exact renderRules_0_1_0_false
        | true =>
          exact renderRules_0_1_0_true
      | 1, _ =>
        cases b3 with
        | false =>
          exact renderRules_0_1_1_false
        | true =>
          exact renderRules_0_1_1_true
      | 2, _ =>
        cases b3 with
        | false =>
          exact renderRules_0_1_2_false
        | true =>
          exact renderRules_0_1_2_true
      | 3, _ =>
        cases b3 with
        | false =>
          exact renderRules_0_1_3_false
        | true =>
          exact renderRules_0_1_3_true
      | n + 4, h => exact absurd h (by omega)
    | 2, _ =>
      match r2, h2 with
      | 0, _ =>
        cases b3 with
        | false =>
          exact renderRules_0_2_0_false
        | true =>
          exact renderRules_0_2_0_true
      | 1, _ =>
        cases b3 with
        | false =>
          exact renderRules_0_2_1_false
        | true =>
          exact renderRules_0_2_1_true
      | 2, _ =>
        cases b3 with
        | false =>
          exact renderRules_0_2_2_false
        | true =>
          exact renderRules_0_2_2_true
      | 3, _ =>
        cases b3 with
        | false =>
          exact renderRules_0_2_3_false
        | true =>
          exact renderRules_0_2_3_true
      | n + 4, h => exact absurd h (by omega)
    | 3, _ =>
      match r2, h2 with
      | 0, _ =>
        cases b3 with
        | false =>
          exact renderRules_0_3_0_false
        | true =>
          exact renderRules_0_3_0_true
      | 1, _ =>
        cases b3 with
        | false =>
          exact renderRules_0_3_1_false
        | true =>
          exact renderRules_0_3_1_true
      | 2, _ =>
        cases b3 with
        | false =>
          exact renderRules_0_3_2_false
        | true =>
          exact renderRules_0_3_2_true
      | 3, _ =>
        cases b3 with
        | false =>
          exact renderRules_0_3_3_false
        | true =>
          exact renderRules_0_3_3_true
      | n + 4, h => exact absurd h (by omega)
    | n + 4, h => exact absurd h (by omega)
  | 1, _ =>
    match r1, h1 with
    | 0, _ =>
      match r2, h2 with
      | 0, _ =>
        cases b3 with
        | false =>
          exact renderRules_1_0_0_false
        | true =>
          exact renderRules_1_0_0_true
      | 1, _ =>
        cases b3 with
        | false =>
          exact renderRules_1_0_1_false
        | true =>
          exact renderRules_1_0_1_true
      | 2, _ =>
        cases b3 with
        | false =>
          exact renderRules_1_0_2_false
        | true =>
          exact renderRules_1_0_2_true
      | 3, _ =>
        cases b3 with
        | false =>
          exact renderRules_1_0_3_false
        | true =>
          exact renderRules_1_0_3_true
      | n + 4, h => exact absurd h (by omega)
    | 1, _ =>
      match r2, h2 with
      | 0, _ =>
        cases b3 with
        | false =>
          exact renderRules_1_1_0_false
        | true =>
          exact renderRules_1_1_0_true
      | 1, _ =>
        cases b3 with
        | false =>
          exact renderRules_1_1_1_false
        | true =>
          exact renderRules_1_1_1_true
      | 2, _ =>
        cases b3 with
        | false =>
          exact renderRules_1_1_2_false
        | true =>
          exact renderRules_1_1_2_true
      | 3, _ =>
        cases b3 with
        | false =>
          exact renderRules_1_1_3_false
        | true =>
          exact renderRules_1_1_3_true
      | n + 4, h => exact absurd h (by omega)
    | 2, _ =>
      match r2, h2 with
      | 0, _ =>
        cases b3 with
        | false =>
          exact renderRules_1_2_0_false
        | true =>
          exact renderRules_1_2_0_true
      | 1, _ =>
        cases b3 with
        | false =>
          exact renderRules_1_2_1_false
        | true =>
          exact renderRules_1_2_1_true
      | 2, _ =>
        cases b3 with
        | false =>
          exact renderRules_1_2_2_false
        | true =>
          exact renderRules_1_2_2_true
      | 3, _ =>
        cases b3 with
        | false =>
          exact renderRules_1_2_3_false
        | true =>
          exact renderRules_1_2_3_true
      | n + 4, h => exact absurd h (by omega)
    | 3, _ =>
      match r2, h2 with
      | 0, _ =>
        cases b3 with
        | false =>
          exact renderRules_1_3_0_false
        | true =>
          exact renderRules_1_3_0_true
      | 1, _ =>
        cases b3 with
        | false =>
          exact renderRules_1_3_1_false
        | true =>
          exact renderRules_1_3_1_true
      | 2, _ =>
        cases b3 with
        | false =>
          exact renderRules_1_3_2_false
        | true =>
          exact renderRules_1_3_2_true
      | 3, _ =>
        cases b3 with
        | false =>
          exact renderRules_1_3_3_false
        | true =>
          exact renderRules_1_3_3_true
      | n + 4, h => exact absurd h (by omega)
    | n + 4, h => exact absurd h (by omega)
  | 2, _ =>
    match r1, h1 with
    | 0, _ =>
      match r2, h2 with
      | 0, _ =>
        cases b3 with
        | false =>
          exact renderRules_2_0_0_false
        | true =>
          exact renderRules_2_0_0_true
      | 1, _ =>
        cases b3 with
        | false =>
          exact renderRules_2_0_1_false
        | true =>
          exact renderRules_2_0_1_true
      | 2, _ =>
        cases b3 with
        | false =>
          exact renderRules_2_0_2_false
        | true =>
          exact renderRules_2_0_2_true
      | 3, _ =>
        cases b3 with
        | false =>
          exact renderRules_2_0_3_false
        | true =>
          exact renderRules_2_0_3_true
      | n + 4, h => exact absurd h (by omega)
    | 1, _ =>
      match r2, h2 with
      | 0, _ =>
        cases b3 with
        | false =>
          exact renderRules_2_1_0_false
        | true =>
          exact renderRules_2_1_0_true
      | 1, _ =>
        cases b3 with
        | false =>
          exact renderRules_2_1_1_false
        | true =>
          exact renderRules_2_1_1_true
      | 2, _ =>
        cases b3 with
        | false =>
          exact renderRules_2_1_2_false
        | true =>
          exact renderRules_2_1_2_true
      | 3, _ =>
        cases b3 with
        | false =>
          exact renderRules_2_1_3_false
        | true =>
          exact renderRules_2_1_3_true
      | n + 4, h => exact absurd h (by omega)
    | 2, _ =>
      match r2, h2 with
      | 0, _ =>
        cases b3 with
        | false =>
          exact renderRules_2_2_0_false
        | true =>
          exact renderRules_2_2_0_true
      | 1, _ =>
        cases b3 with
        | false =>
          exact renderRules_2_2_1_false
        | true =>
          exact renderRules_2_2_1_true
      | 2, _ =>
        cases b3 with
        | false =>
          exact renderRules_2_2_2_false
        | true =>
          exact renderRules_2_2_2_true
      | 3, _ =>
        cases b3 with
        | false =>
          exact renderRules_2_2_3_false
        | true =>
          exact renderRules_2_2_3_true
      | n + 4, h => exact absurd h (by omega)
    | 3, _ =>
      match r2, h2 with
      | 0, _ =>
        cases b3 with
        | false =>
          exact renderRules_2_3_0_false
        | true =>
          exact renderRules_2_3_0_true
      | 1, _ =>
        cases b3 with
        | false =>
          exact renderRules_2_3_1_false
        | true =>
          exact renderRules_2_3_1_true
      | 2, _ =>
        cases b3 with
        | false =>
          exact renderRules_2_3_2_false
        | true =>
          exact renderRules_2_3_2_true
      | 3, _ =>
        cases b3 with
        | false =>
          exact renderRules_2_3_3_false
        | true =>
          exact renderRules_2_3_3_true
      | n + 4, h => exact absurd h (by omega)
    | n + 4, h => exact absurd h (by omega)
  | 3, _ =>
    match r1, h1 with
    | 0, _ =>
      match r2, h2 with
      | 0, _ =>
        cases b3 with
        | false =>
          exact renderRules_3_0_0_false
        | true =>
          exact renderRules_3_0_0_true
      | 1, _ =>
        cases b3 with
        | false =>
          exact renderRules_3_0_1_false
        | true =>
          exact renderRules_3_0_1_true
      | 2, _ =>
        cases b3 with
        | false =>
          exact renderRules_3_0_2_false
        | true =>
          exact renderRules_3_0_2_true
      | 3, _ =>
        cases b3 with
        | false =>
          exact renderRules_3_0_3_false
        | true =>
          exact renderRules_3_0_3_true
      | n + 4, h => exact absurd h (by omega)
    | 1, _ =>
      match r2, h2 with
      | 0, _ =>
        cases b3 with
        | false =>
          exact renderRules_3_1_0_false
        | true =>
          exact renderRules_3_1_0_true
      | 1, _ =>
        cases b3 with
        | false =>
          exact renderRules_3_1_1_false
        | true =>
          exact renderRules_3_1_1_true
      | 2, _ =>
        cases b3 with
        | false =>
          exact renderRules_3_1_2_false
        | true =>
          exact renderRules_3_1_2_true
      | 3, _ =>
        cases b3 with
        | false =>
          exact renderRules_3_1_3_false
        | true =>
          exact renderRules_3_1_3_true
      | n + 4, h => exact absurd h (by omega)
    | 2, _ =>
      match r2, h2 with
      | 0, _ =>
        cases b3 with
        | false =>
          exact renderRules_3_2_0_false
        | true =>
          exact renderRules_3_2_0_true
      | 1, _ =>
        cases b3 with
        | false =>
          exact renderRules_3_2_1_false
        | true =>
          exact renderRules_3_2_1_true
      | 2, _ =>
        cases b3 with
        | false =>
          exact renderRules_3_2_2_false
        | true =>
          exact renderRules_3_2_2_true
      | 3, _ =>
        cases b3 with
        | false =>
          exact renderRules_3_2_3_false
        | true =>
          exact renderRules_3_2_3_true
      | n + 4, h => exact absurd h (by omega)
    | 3, _ =>
      match r2, h2 with
      | 0, _ =>
        cases b3 with
        | false =>
          exact renderRules_3_3_0_false
        | true =>
          exact renderRules_3_3_0_true
      | 1, _ =>
        cases b3 with
        | false =>
          exact renderRules_3_3_1_false
        | true =>
          exact renderRules_3_3_1_true
      | 2, _ =>
        cases b3 with
        | false =>
          exact renderRules_3_3_2_false
        | true =>
          exact renderRules_3_3_2_true
      | 3, _ =>
        cases b3 with
        | false =>
          exact renderRules_3_3_3_false
        | true =>
          exact renderRules_3_3_3_true
      | n + 4, h => exact absurd h (by omega)
    | n + 4, h => exact absurd h (by omega)
  | 4, _ =>
    match r1, h1 with
    | 0, _ =>
      match r2, h2 with
      | 0, _ =>
        cases b3 with
        | false =>
          exact renderRules_4_0_0_false
        | true =>
          exact renderRules_4_0_0_true
      | 1, _ =>
        cases b3 with
        | false =>
          exact renderRules_4_0_1_false
        | true =>
          exact renderRules_4_0_1_true
      | 2, _ =>
        cases b3 with
        | false =>
          exact renderRules_4_0_2_false
        | true =>
          exact renderRules_4_0_2_true
      | 3, _ =>
        cases b3 with
        | false =>
          exact renderRules_4_0_3_false
        | true =>
          exact renderRules_4_0_3_true
      | n + 4, h => exact absurd h (by omega)
    | 1, _ =>
      match r2, h2 with
      | 0, _ =>
        cases b3 with
        | false =>
          exact renderRules_4_1_0_false
        | true =>
          exact renderRules_4_1_0_true
      | 1, _ =>
        cases b3 with
        | false =>
          exact renderRules_4_1_1_false
        | true =>
          exact renderRules_4_1_1_true
      | 2, _ =>
        cases b3 with
        | false =>
          exact renderRules_4_1_2_false
        | true =>
          exact renderRules_4_1_2_true
      | 3, _ =>
        cases b3 with
        | false =>
          exact renderRules_4_1_3_false
        | true =>
          exact renderRules_4_1_3_true
      | n + 4, h => exact absurd h (by omega)
    | 2, _ =>
      match r2, h2 with
      | 0, _ =>
        cases b3 with
        | false =>
          exact renderRules_4_2_0_false
        | true =>
          exact renderRules_4_2_0_true
      | 1, _ =>
        cases b3 with
        | false =>
          exact renderRules_4_2_1_false
        | true =>
          exact renderRules_4_2_1_true
      | 2, _ =>
        cases b3 with
        | false =>
          exact renderRules_4_2_2_false
        | true =>
          exact renderRules_4_2_2_true
      | 3, _ =>
        cases b3 with
        | false =>
          exact renderRules_4_2_3_false
        | true =>
          exact renderRules_4_2_3_true
      | n + 4, h => exact absurd h (by omega)
    | 3, _ =>
      match r2, h2 with
      | 0, _ =>
        cases b3 with
        | false =>
          exact renderRules_4_3_0_false
        | true =>
          exact renderRules_4_3_0_true
      | 1, _ =>
        cases b3 with
        | false =>
          exact renderRules_4_3_1_false
        | true =>
          exact renderRules_4_3_1_true
      | 2, _ =>
        cases b3 with
        | false =>
          exact renderRules_4_3_2_false
        | true =>
          exact renderRules_4_3_2_true
      | 3, _ =>
        cases b3 with
        | false =>
          exact renderRules_4_3_3_false
        | true =>
          exact renderRules_4_3_3_true
      | n + 4, h => exact absurd h (by omega)
    | n + 4, h => exact absurd h (by omega)
  | n + 5, h => exact absurd h (by omega)
theorem renderRules_walk (a0 : Int) (a1 : Int) (a2 : Int) (b3 : Bool) (w : World) (w0 : (Lit.int .i64 a0).wf = true) (w1 : (Lit.int .i64 a1).wf = true) (w2 : (Lit.int .i64 a2).wf = true) : Calls Tryd.prog 5 #[Value.int .i64 a0, Value.int .i64 a1, Value.int .i64 a2, Value.bool b3] w fun e w' => e = .returned (.bool true) ∧ Below w.heap.size w w' := by
  obtain ⟨r0, h0, e0⟩ := mod_cases a0 5 (by decide)
  obtain ⟨r1, h1, e1⟩ := mod_cases a1 4 (by decide)
  obtain ⟨r2, h2, e2⟩ := mod_cases a2 4 (by decide)
  exact fin_memo memo_ok (zsL [a0, a1, a2]) place_ok names_ok mixed (fun fn h => by rw [Tryd.func5] at h; obtain rfl := Option.some.inj h; rfl) (zsL_wf (fun a h => by simp only [List.mem_cons, List.not_mem_nil, or_false] at h; rcases h with rfl | rfl | rfl <;> assumption)) (tabL_ok (TabOk.cons (by decide) (by decide) e0 (TabOk.cons (by decide) (by decide) e1 (TabOk.cons (by decide) (by decide) e2 (show TabOk [] [] from trivial))))) (.cons _ _ _ _ (.sym 0) (.cons _ _ _ _ (.sym 1) (.cons _ _ _ _ (.sym 2) (.cons _ _ _ _ (.bool _) .nil)))) (renderRules_all r0 r1 r2 b3 h0 h1 h2)
end Go.Proofs.YtlmabmpdbcgabaaDoor.Fin
