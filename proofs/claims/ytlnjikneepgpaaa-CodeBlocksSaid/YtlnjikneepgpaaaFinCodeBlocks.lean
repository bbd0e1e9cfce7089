/- The law CodeBlocks: each case of it, and with them its walk. -/
import Derived.Test.YtlnjikneepgpaaaFinCodeBlocks0
import Derived.Test.YtlnjikneepgpaaaFinCodeBlocks1
import Derived.Test.YtlnjikneepgpaaaFinCodeBlocks2
import Derived.Test.YtlnjikneepgpaaaFinCodeBlocks3
import Derived.Test.YtlnjikneepgpaaaFinCodeBlocks4
import Derived.Test.YtlnjikneepgpaaaFinCodeBlocks5
import Derived.Test.YtlnjikneepgpaaaFinCodeBlocks6
import Derived.Test.YtlnjikneepgpaaaFinCodeBlocks7
import Derived.Test.YtlnjikneepgpaaaFinCodeBlocks8
import Derived.Test.YtlnjikneepgpaaaFinCodeBlocks9
import Derived.Test.YtlnjikneepgpaaaFinCodeBlocks10
import Derived.Test.YtlnjikneepgpaaaFinCodeBlocks11
namespace Go.Proofs.Ytlnjikneepgpaaa.Fin
open Go.Proofs.Ytlnjikneepgpaaa.Fast Go.RowKit
set_option linter.unusedVariables false

theorem codeBlocks_all (r0 : Nat) (r1 : Nat) (h0 : r0 < 12) (h1 : r1 < 6) : codeBlocksGo r0 r1 = true := by
  match r0, h0 with
  | 0, _ =>
    match r1, h1 with
    | 0, _ =>
      exact codeBlocks_0_0
    | 1, _ =>
      exact codeBlocks_0_1
    | 2, _ =>
      exact codeBlocks_0_2
    | 3, _ =>
      exact codeBlocks_0_3
    | 4, _ =>
      exact codeBlocks_0_4
    | 5, _ =>
      exact codeBlocks_0_5
    | n + 6, h => exact absurd h (by omega)
  | 1, _ =>
    match r1, h1 with
    | 0, _ =>
      exact codeBlocks_1_0
    | 1, _ =>
      exact codeBlocks_1_1
    | 2, _ =>
      exact codeBlocks_1_2
    | 3, _ =>
      exact codeBlocks_1_3
    | 4, _ =>
      exact codeBlocks_1_4
    | 5, _ =>
      exact codeBlocks_1_5
    | n + 6, h => exact absurd h (by omega)
  | 2, _ =>
    match r1, h1 with
    | 0, _ =>
      exact codeBlocks_2_0
    | 1, _ =>
      exact codeBlocks_2_1
    | 2, _ =>
      exact codeBlocks_2_2
    | 3, _ =>
      exact codeBlocks_2_3
    | 4, _ =>
      exact codeBlocks_2_4
    | 5, _ =>
      exact codeBlocks_2_5
    | n + 6, h => exact absurd h (by omega)
  | 3, _ =>
    match r1, h1 with
    | 0, _ =>
      exact codeBlocks_3_0
    | 1, _ =>
      exact codeBlocks_3_1
    | 2, _ =>
      exact codeBlocks_3_2
    | 3, _ =>
      exact codeBlocks_3_3
    | 4, _ =>
      exact codeBlocks_3_4
    | 5, _ =>
      exact codeBlocks_3_5
    | n + 6, h => exact absurd h (by omega)
  | 4, _ =>
    match r1, h1 with
    | 0, _ =>
      exact codeBlocks_4_0
    | 1, _ =>
      exact codeBlocks_4_1
    | 2, _ =>
      exact codeBlocks_4_2
    | 3, _ =>
      exact codeBlocks_4_3
    | 4, _ =>
      exact codeBlocks_4_4
    | 5, _ =>
      exact codeBlocks_4_5
    | n + 6, h => exact absurd h (by omega)
  | 5, _ =>
    match r1, h1 with
    | 0, _ =>
      exact codeBlocks_5_0
    | 1, _ =>
      exact codeBlocks_5_1
    | 2, _ =>
      exact codeBlocks_5_2
    | 3, _ =>
      exact codeBlocks_5_3
    | 4, _ =>
      exact codeBlocks_5_4
    | 5, _ =>
      exact codeBlocks_5_5
    | n + 6, h => exact absurd h (by omega)
  | 6, _ =>
    match r1, h1 with
    | 0, _ =>
      exact codeBlocks_6_0
    | 1, _ =>
      exact codeBlocks_6_1
    | 2, _ =>
      exact codeBlocks_6_2
    | 3, _ =>
      exact codeBlocks_6_3
    | 4, _ =>
      exact codeBlocks_6_4
    | 5, _ =>
      exact codeBlocks_6_5
    | n + 6, h => exact absurd h (by omega)
  | 7, _ =>
    match r1, h1 with
    | 0, _ =>
      exact codeBlocks_7_0
    | 1, _ =>
      exact codeBlocks_7_1
    | 2, _ =>
      exact codeBlocks_7_2
    | 3, _ =>
      exact codeBlocks_7_3
    | 4, _ =>
      exact codeBlocks_7_4
    | 5, _ =>
      exact codeBlocks_7_5
    | n + 6, h => exact absurd h (by omega)
  | 8, _ =>
    match r1, h1 with
    | 0, _ =>
      exact codeBlocks_8_0
    | 1, _ =>
      exact codeBlocks_8_1
    | 2, _ =>
      exact codeBlocks_8_2
    | 3, _ =>
      exact codeBlocks_8_3
    | 4, _ =>
      exact codeBlocks_8_4
    | 5, _ =>
      exact codeBlocks_8_5
    | n + 6, h => exact absurd h (by omega)
  | 9, _ =>
    match r1, h1 with
    | 0, _ =>
      exact codeBlocks_9_0
    | 1, _ =>
      exact codeBlocks_9_1
    | 2, _ =>
      exact codeBlocks_9_2
    | 3, _ =>
      exact codeBlocks_9_3
    | 4, _ =>
      exact codeBlocks_9_4
    | 5, _ =>
      exact codeBlocks_9_5
    | n + 6, h => exact absurd h (by omega)
  | 10, _ =>
    match r1, h1 with
    | 0, _ =>
      exact codeBlocks_10_0
    | 1, _ =>
      exact codeBlocks_10_1
    | 2, _ =>
      exact codeBlocks_10_2
    | 3, _ =>
      exact codeBlocks_10_3
    | 4, _ =>
      exact codeBlocks_10_4
    | 5, _ =>
      exact codeBlocks_10_5
    | n + 6, h => exact absurd h (by omega)
  | 11, _ =>
    match r1, h1 with
    | 0, _ =>
      exact codeBlocks_11_0
    | 1, _ =>
      exact codeBlocks_11_1
    | 2, _ =>
      exact codeBlocks_11_2
    | 3, _ =>
      exact codeBlocks_11_3
    | 4, _ =>
      exact codeBlocks_11_4
    | 5, _ =>
      exact codeBlocks_11_5
    | n + 6, h => exact absurd h (by omega)
  | n + 12, h => exact absurd h (by omega)
theorem codeBlocks_walk (a0 : Int) (a1 : Int) (w : World) (w0 : (Lit.int .i64 a0).wf = true) (w1 : (Lit.int .i64 a1).wf = true) : Calls Try.prog 4 #[Value.int .i64 a0, Value.int .i64 a1] w fun e w' => e = .returned (.bool true) ∧ Below w.heap.size w w' := by
  obtain ⟨r0, h0, e0⟩ := mod_cases a0 12 (by decide)
  obtain ⟨r1, h1, e1⟩ := mod_cases a1 6 (by decide)
  exact fin_memo memo_ok (zs2 a0 a1) place_ok names_ok mixed (fun fn h => by rw [Try.func4] at h; obtain rfl := Option.some.inj h; rfl) (zs2_wf w0 w1) (tab2_ok (by decide) (by decide) e0 (by decide) (by decide) e1) (.cons _ _ _ _ (.sym 0) (.cons _ _ _ _ (.sym 1) .nil)) (codeBlocks_all r0 r1 h0 h1)
end Go.Proofs.Ytlnjikneepgpaaa.Fin
