/- The law PureCalls: each case of it, and with them its walk. -/
import Derived.Test.YtkaegfgaemnemaaFinPureCalls0
import Derived.Test.YtkaegfgaemnemaaFinPureCalls1
import Derived.Test.YtkaegfgaemnemaaFinPureCalls2
import Derived.Test.YtkaegfgaemnemaaFinPureCalls3
import Derived.Test.YtkaegfgaemnemaaFinPureCalls4
import Derived.Test.YtkaegfgaemnemaaFinPureCalls5
import Derived.Test.YtkaegfgaemnemaaFinPureCalls6
import Derived.Test.YtkaegfgaemnemaaFinPureCalls7
namespace Go.Proofs.Ytkaegfgaemnemaa.Fin
open Go.Proofs.Ytkaegfgaemnemaa.Fast Go.RowKit
set_option linter.unusedVariables false

theorem pureCalls_all (r0 : Nat) (r1 : Nat) (h0 : r0 < 12) (h1 : r1 < 4) : pureCallsGo r0 r1 = true := by
  match r0, h0 with
  | 0, _ =>
    match r1, h1 with
    | 0, _ =>
      exact pureCalls_0_0
    | 1, _ =>
      exact pureCalls_0_1
    | 2, _ =>
      exact pureCalls_0_2
    | 3, _ =>
      exact pureCalls_0_3
    | n + 4, h => exact absurd h (by omega)
  | 1, _ =>
    match r1, h1 with
    | 0, _ =>
      exact pureCalls_1_0
    | 1, _ =>
      exact pureCalls_1_1
    | 2, _ =>
      exact pureCalls_1_2
    | 3, _ =>
      exact pureCalls_1_3
    | n + 4, h => exact absurd h (by omega)
  | 2, _ =>
    match r1, h1 with
    | 0, _ =>
      exact pureCalls_2_0
    | 1, _ =>
      exact pureCalls_2_1
    | 2, _ =>
      exact pureCalls_2_2
    | 3, _ =>
      exact pureCalls_2_3
    | n + 4, h => exact absurd h (by omega)
  | 3, _ =>
    match r1, h1 with
    | 0, _ =>
      exact pureCalls_3_0
    | 1, _ =>
      exact pureCalls_3_1
    | 2, _ =>
      exact pureCalls_3_2
    | 3, _ =>
      exact pureCalls_3_3
    | n + 4, h => exact absurd h (by omega)
  | 4, _ =>
    match r1, h1 with
    | 0, _ =>
      exact pureCalls_4_0
    | 1, _ =>
      exact pureCalls_4_1
    | 2, _ =>
      exact pureCalls_4_2
    | 3, _ =>
      exact pureCalls_4_3
    | n + 4, h => exact absurd h (by omega)
  | 5, _ =>
    match r1, h1 with
    | 0, _ =>
      exact pureCalls_5_0
    | 1, _ =>
      exact pureCalls_5_1
    | 2, _ =>
      exact pureCalls_5_2
    | 3, _ =>
      exact pureCalls_5_3
    | n + 4, h => exact absurd h (by omega)
  | 6, _ =>
    match r1, h1 with
    | 0, _ =>
      exact pureCalls_6_0
    | 1, _ =>
      exact pureCalls_6_1
    | 2, _ =>
      exact pureCalls_6_2
    | 3, _ =>
      exact pureCalls_6_3
    | n + 4, h => exact absurd h (by omega)
  | 7, _ =>
    match r1, h1 with
    | 0, _ =>
      exact pureCalls_7_0
    | 1, _ =>
      exact pureCalls_7_1
    | 2, _ =>
      exact pureCalls_7_2
    | 3, _ =>
      exact pureCalls_7_3
    | n + 4, h => exact absurd h (by omega)
  | 8, _ =>
    match r1, h1 with
    | 0, _ =>
      exact pureCalls_8_0
    | 1, _ =>
      exact pureCalls_8_1
    | 2, _ =>
      exact pureCalls_8_2
    | 3, _ =>
      exact pureCalls_8_3
    | n + 4, h => exact absurd h (by omega)
  | 9, _ =>
    match r1, h1 with
    | 0, _ =>
      exact pureCalls_9_0
    | 1, _ =>
      exact pureCalls_9_1
    | 2, _ =>
      exact pureCalls_9_2
    | 3, _ =>
      exact pureCalls_9_3
    | n + 4, h => exact absurd h (by omega)
  | 10, _ =>
    match r1, h1 with
    | 0, _ =>
      exact pureCalls_10_0
    | 1, _ =>
      exact pureCalls_10_1
    | 2, _ =>
      exact pureCalls_10_2
    | 3, _ =>
      exact pureCalls_10_3
    | n + 4, h => exact absurd h (by omega)
  | 11, _ =>
    match r1, h1 with
    | 0, _ =>
      exact pureCalls_11_0
    | 1, _ =>
      exact pureCalls_11_1
    | 2, _ =>
      exact pureCalls_11_2
    | 3, _ =>
      exact pureCalls_11_3
    | n + 4, h => exact absurd h (by omega)
  | n + 12, h => exact absurd h (by omega)
theorem pureCalls_walk (a0 : Int) (a1 : Int) (w : World) (w0 : (Lit.int .i64 a0).wf = true) (w1 : (Lit.int .i64 a1).wf = true) : Calls Try.prog 4 #[Value.int .i64 a0, Value.int .i64 a1] w fun e w' => e = .returned (.bool true) ∧ Below w.heap.size w w' := by
  obtain ⟨r0, h0, e0⟩ := mod_cases a0 12 (by decide)
  obtain ⟨r1, h1, e1⟩ := mod_cases a1 4 (by decide)
  exact fin_memo memo_ok (zs2 a0 a1) place_ok names_ok mixed (fun fn h => by rw [Try.func4] at h; obtain rfl := Option.some.inj h; rfl) (zs2_wf w0 w1) (tab2_ok (by decide) (by decide) e0 (by decide) (by decide) e1) (.cons _ _ _ _ (.sym 0) (.cons _ _ _ _ (.sym 1) .nil)) (pureCalls_all r0 r1 h0 h1)
end Go.Proofs.Ytkaegfgaemnemaa.Fin
