/- The law SyntaxCalls: each case of it, and with them its walk. -/
import Derived.Test.YtkaegfgaemnemaaDoorFinSyntaxCalls0
import Derived.Test.YtkaegfgaemnemaaDoorFinSyntaxCalls1
import Derived.Test.YtkaegfgaemnemaaDoorFinSyntaxCalls2
import Derived.Test.YtkaegfgaemnemaaDoorFinSyntaxCalls3
import Derived.Test.YtkaegfgaemnemaaDoorFinSyntaxCalls4
import Derived.Test.YtkaegfgaemnemaaDoorFinSyntaxCalls5
import Derived.Test.YtkaegfgaemnemaaDoorFinSyntaxCalls6
import Derived.Test.YtkaegfgaemnemaaDoorFinSyntaxCalls7
import Derived.Test.YtkaegfgaemnemaaDoorFinSyntaxCalls8
import Derived.Test.YtkaegfgaemnemaaDoorFinSyntaxCalls9
import Derived.Test.YtkaegfgaemnemaaDoorFinSyntaxCalls10
import Derived.Test.YtkaegfgaemnemaaDoorFinSyntaxCalls11
import Derived.Test.YtkaegfgaemnemaaDoorFinSyntaxCalls12
import Derived.Test.YtkaegfgaemnemaaDoorFinSyntaxCalls13
import Derived.Test.YtkaegfgaemnemaaDoorFinSyntaxCalls14
import Derived.Test.YtkaegfgaemnemaaDoorFinSyntaxCalls15
namespace Go.Proofs.YtkaegfgaemnemaaDoor.Fin
open Go.Proofs.YtkaegfgaemnemaaDoor.Fast Go.RowKit
set_option linter.unusedVariables false

theorem syntaxCalls_all (r0 : Nat) (r1 : Nat) (b2 : Bool) (h0 : r0 < 8) (h1 : r1 < 8) : syntaxCallsGo r0 r1 b2 = true := by
  match r0, h0 with
  | 0, _ =>
    match r1, h1 with
    | 0, _ =>
      cases b2 with
      | false =>
        exact syntaxCalls_0_0_false
      | true =>
        exact syntaxCalls_0_0_true
    | 1, _ =>
      cases b2 with
      | false =>
        exact syntaxCalls_0_1_false
      | true =>
        exact syntaxCalls_0_1_true
    | 2, _ =>
      cases b2 with
      | false =>
        exact syntaxCalls_0_2_false
      | true =>
        exact syntaxCalls_0_2_true
    | 3, _ =>
      cases b2 with
      | false =>
        exact syntaxCalls_0_3_false
      | true =>
        exact syntaxCalls_0_3_true
    | 4, _ =>
      cases b2 with
      | false =>
        exact syntaxCalls_0_4_false
      | true =>
        exact syntaxCalls_0_4_true
    | 5, _ =>
      cases b2 with
      | false =>
        exact syntaxCalls_0_5_false
      | true =>
        exact syntaxCalls_0_5_true
    | 6, _ =>
      cases b2 with
      | false =>
        exact syntaxCalls_0_6_false
      | true =>
        exact syntaxCalls_0_6_true
    | 7, _ =>
      cases b2 with
      | false =>
        exact syntaxCalls_0_7_false
      | true =>
        exact syntaxCalls_0_7_true
    | n + 8, h => exact absurd h (by omega)
  | 1, _ =>
    match r1, h1 with
    | 0, _ =>
      cases b2 with
      | false =>
        exact syntaxCalls_1_0_false
      | true =>
        exact syntaxCalls_1_0_true
    | 1, _ =>
      cases b2 with
      | false =>
        exact syntaxCalls_1_1_false
      | true =>
        exact syntaxCalls_1_1_true
    | 2, _ =>
      cases b2 with
      | false =>
        exact syntaxCalls_1_2_false
      | true =>
        exact syntaxCalls_1_2_true
    | 3, _ =>
      cases b2 with
      | false =>
        exact syntaxCalls_1_3_false
      | true =>
        exact syntaxCalls_1_3_true
    | 4, _ =>
      cases b2 with
      | false =>
        exact syntaxCalls_1_4_false
      | true =>
        exact syntaxCalls_1_4_true
    | 5, _ =>
      cases b2 with
      | false =>
        exact syntaxCalls_1_5_false
      | true =>
        exact syntaxCalls_1_5_true
    | 6, _ =>
      cases b2 with
      | false =>
        exact syntaxCalls_1_6_false
      | true =>
        exact syntaxCalls_1_6_true
    | 7, _ =>
      cases b2 with
      | false =>
        exact syntaxCalls_1_7_false
      | true =>
        exact syntaxCalls_1_7_true
    | n + 8, h => exact absurd h (by omega)
  | 2, _ =>
    match r1, h1 with
    | 0, _ =>
      cases b2 with
      | false =>
        exact syntaxCalls_2_0_false
      | true =>
        exact syntaxCalls_2_0_true
    | 1, _ =>
      cases b2 with
      | false =>
        exact syntaxCalls_2_1_false
      | true =>
        exact syntaxCalls_2_1_true
    | 2, _ =>
      cases b2 with
      | false =>
        exact syntaxCalls_2_2_false
      | true =>
        exact syntaxCalls_2_2_true
    | 3, _ =>
      cases b2 with
      | false =>
        exact syntaxCalls_2_3_false
      | true =>
        exact syntaxCalls_2_3_true
    | 4, _ =>
      cases b2 with
      | false =>
        exact syntaxCalls_2_4_false
      | true =>
        exact syntaxCalls_2_4_true
    | 5, _ =>
      cases b2 with
      | false =>
        exact syntaxCalls_2_5_false
      | true =>
        exact syntaxCalls_2_5_true
    | 6, _ =>
      cases b2 with
      | false =>
        exact syntaxCalls_2_6_false
      | true =>
        exact syntaxCalls_2_6_true
    | 7, _ =>
      cases b2 with
      | false =>
        exact syntaxCalls_2_7_false
      | true =>
        exact syntaxCalls_2_7_true
    | n + 8, h => exact absurd h (by omega)
  | 3, _ =>
    match r1, h1 with
    | 0, _ =>
      cases b2 with
      | false =>
        exact syntaxCalls_3_0_false
      | true =>
        exact syntaxCalls_3_0_true
    | 1, _ =>
      cases b2 with
      | false =>
        exact syntaxCalls_3_1_false
      | true =>
        exact syntaxCalls_3_1_true
    | 2, _ =>
      cases b2 with
      | false =>
        exact syntaxCalls_3_2_false
      | true =>
        exact syntaxCalls_3_2_true
    | 3, _ =>
      cases b2 with
      | false =>
        exact syntaxCalls_3_3_false
      | true =>
        exact syntaxCalls_3_3_true
    | 4, _ =>
      cases b2 with
      | false =>
        exact syntaxCalls_3_4_false
      | true =>
        exact syntaxCalls_3_4_true
    | 5, _ =>
      cases b2 with
      | false =>
        exact syntaxCalls_3_5_false
      | true =>
        exact syntaxCalls_3_5_true
    | 6, _ =>
      cases b2 with
      | false =>
        exact syntaxCalls_3_6_false
      | true =>
        exact syntaxCalls_3_6_true
    | 7, _ =>
      cases b2 with
      | false =>
        exact syntaxCalls_3_7_false
      | true =>
        exact syntaxCalls_3_7_true
    | n + 8, h => exact absurd h (by omega)
  | 4, _ =>
    match r1, h1 with
    | 0, _ =>
      cases b2 with
      | false =>
        exact syntaxCalls_4_0_false
      | true =>
        exact syntaxCalls_4_0_true
    | 1, _ =>
      cases b2 with
      | false =>
        exact syntaxCalls_4_1_false
      | true =>
        exact syntaxCalls_4_1_true
    | 2, _ =>
      cases b2 with
      | false =>
        exact syntaxCalls_4_2_false
      | true =>
        exact syntaxCalls_4_2_true
    | 3, _ =>
      cases b2 with
      | false =>
        exact syntaxCalls_4_3_false
      | true =>
        exact syntaxCalls_4_3_true
    | 4, _ =>
      cases b2 with
      | false =>
        exact syntaxCalls_4_4_false
      | true =>
        exact syntaxCalls_4_4_true
    | 5, _ =>
      cases b2 with
      | false =>
        exact syntaxCalls_4_5_false
      | true =>
        exact syntaxCalls_4_5_true
    | 6, _ =>
      cases b2 with
      | false =>
        exact syntaxCalls_4_6_false
      | true =>
        exact syntaxCalls_4_6_true
    | 7, _ =>
      cases b2 with
      | false =>
        exact syntaxCalls_4_7_false
      | true =>
        exact syntaxCalls_4_7_true
    | n + 8, h => exact absurd h (by omega)
  | 5, _ =>
    match r1, h1 with
    | 0, _ =>
      cases b2 with
      | false =>
        exact syntaxCalls_5_0_false
      | true =>
        exact syntaxCalls_5_0_true
    | 1, _ =>
      cases b2 with
      | false =>
        exact syntaxCalls_5_1_false
      | true =>
        exact syntaxCalls_5_1_true
    | 2, _ =>
      cases b2 with
      | false =>
        exact syntaxCalls_5_2_false
      | true =>
        exact syntaxCalls_5_2_true
    | 3, _ =>
      cases b2 with
      | false =>
        exact syntaxCalls_5_3_false
      | true =>
        exact syntaxCalls_5_3_true
    | 4, _ =>
      cases b2 with
      | false =>
        exact syntaxCalls_5_4_false
      | true =>
        exact syntaxCalls_5_4_true
    | 5, _ =>
      cases b2 with
      | false =>
        exact syntaxCalls_5_5_false
      | true =>
        exact syntaxCalls_5_5_true
    | 6, _ =>
      cases b2 with
      | false =>
        exact syntaxCalls_5_6_false
      | true =>
        exact syntaxCalls_5_6_true
    | 7, _ =>
      cases b2 with
      | false =>
        exact syntaxCalls_5_7_false
      | true =>
        exact syntaxCalls_5_7_true
    | n + 8, h => exact absurd h (by omega)
  | 6, _ =>
    match r1, h1 with
    | 0, _ =>
      cases b2 with
      | false =>
        exact syntaxCalls_6_0_false
      | true =>
        exact syntaxCalls_6_0_true
    | 1, _ =>
      cases b2 with
      | false =>
        exact syntaxCalls_6_1_false
      | true =>
        exact syntaxCalls_6_1_true
    | 2, _ =>
      cases b2 with
      | false =>
        exact syntaxCalls_6_2_false
      | true =>
        exact syntaxCalls_6_2_true
    | 3, _ =>
      cases b2 with
      | false =>
        exact syntaxCalls_6_3_false
      | true =>
        exact syntaxCalls_6_3_true
    | 4, _ =>
      cases b2 with
      | false =>
        exact syntaxCalls_6_4_false
      | true =>
        exact syntaxCalls_6_4_true
    | 5, _ =>
      cases b2 with
      | false =>
        exact syntaxCalls_6_5_false
      | true =>
        exact syntaxCalls_6_5_true
    | 6, _ =>
      cases b2 with
      | false =>
        exact syntaxCalls_6_6_false
      | true =>
        exact syntaxCalls_6_6_true
    | 7, _ =>
      cases b2 with
      | false =>
        exact syntaxCalls_6_7_false
      | true =>
        exact syntaxCalls_6_7_true
    | n + 8, h => exact absurd h (by omega)
  | 7, _ =>
    match r1, h1 with
    | 0, _ =>
      cases b2 with
      | false =>
        exact syntaxCalls_7_0_false
      | true =>
        exact syntaxCalls_7_0_true
    | 1, _ =>
      cases b2 with
      | false =>
        exact syntaxCalls_7_1_false
      | true =>
        exact syntaxCalls_7_1_true
    | 2, _ =>
      cases b2 with
      | false =>
        exact syntaxCalls_7_2_false
      | true =>
        exact syntaxCalls_7_2_true
    | 3, _ =>
      cases b2 with
      | false =>
        exact syntaxCalls_7_3_false
      | true =>
        exact syntaxCalls_7_3_true
    | 4, _ =>
      cases b2 with
      | false =>
        exact syntaxCalls_7_4_false
      | true =>
        exact syntaxCalls_7_4_true
    | 5, _ =>
      cases b2 with
      | false =>
        exact syntaxCalls_7_5_false
      | true =>
        exact syntaxCalls_7_5_true
    | 6, _ =>
      cases b2 with
      | false =>
        exact syntaxCalls_7_6_false
      | true =>
        exact syntaxCalls_7_6_true
    | 7, _ =>
      cases b2 with
      | false =>
        exact syntaxCalls_7_7_false
      | true =>
        exact syntaxCalls_7_7_true
    | n + 8, h => exact absurd h (by omega)
  | n + 8, h => exact absurd h (by omega)
theorem syntaxCalls_walk (a0 : Int) (a1 : Int) (b2 : Bool) (w : World) (w0 : (Lit.int .i64 a0).wf = true) (w1 : (Lit.int .i64 a1).wf = true) : Calls Tryd.prog 4 #[Value.int .i64 a0, Value.int .i64 a1, Value.bool b2] w fun e w' => e = .returned (.bool true) ∧ Below w.heap.size w w' := by
  obtain ⟨r0, h0, e0⟩ := mod_cases a0 8 (by decide)
  obtain ⟨r1, h1, e1⟩ := mod_cases a1 8 (by decide)
  exact fin_memo memo_ok (zs2 a0 a1) place_ok names_ok mixed (fun fn h => by rw [Tryd.func4] at h; obtain rfl := Option.some.inj h; rfl) (zs2_wf w0 w1) (tab2_ok (by decide) (by decide) e0 (by decide) (by decide) e1) (.cons _ _ _ _ (.sym 0) (.cons _ _ _ _ (.sym 1) (.cons _ _ _ _ (.bool _) .nil))) (syntaxCalls_all r0 r1 b2 h0 h1)
end Go.Proofs.YtkaegfgaemnemaaDoor.Fin
