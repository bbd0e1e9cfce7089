/- The law CodePlain: each case of it, and with them its walk. -/
import Derived.Test.YtlnjikneepgpaaaFinCodePlain0
import Derived.Test.YtlnjikneepgpaaaFinCodePlain1
import Derived.Test.YtlnjikneepgpaaaFinCodePlain2
import Derived.Test.YtlnjikneepgpaaaFinCodePlain3
import Derived.Test.YtlnjikneepgpaaaFinCodePlain4
import Derived.Test.YtlnjikneepgpaaaFinCodePlain5
import Derived.Test.YtlnjikneepgpaaaFinCodePlain6
import Derived.Test.YtlnjikneepgpaaaFinCodePlain7
import Derived.Test.YtlnjikneepgpaaaFinCodePlain8
import Derived.Test.YtlnjikneepgpaaaFinCodePlain9
import Derived.Test.YtlnjikneepgpaaaFinCodePlain10
import Derived.Test.YtlnjikneepgpaaaFinCodePlain11
import Derived.Test.YtlnjikneepgpaaaFinCodePlain12
import Derived.Test.YtlnjikneepgpaaaFinCodePlain13
namespace Go.Proofs.Ytlnjikneepgpaaa.Fin
open Go.Proofs.Ytlnjikneepgpaaa.Fast Go.RowKit
set_option linter.unusedVariables false

theorem codePlain_all (r0 : Nat) (r1 : Nat) (h0 : r0 < 8) (h1 : r1 < 10) : codePlainGo r0 r1 = true := by
  match r0, h0 with
  | 0, _ =>
    match r1, h1 with
    | 0, _ =>
      exact codePlain_0_0
    | 1, _ =>
      exact codePlain_0_1
    | 2, _ =>
      exact codePlain_0_2
    | 3, _ =>
      exact codePlain_0_3
    | 4, _ =>
      exact codePlain_0_4
    | 5, _ =>
      exact codePlain_0_5
    | 6, _ =>
      exact codePlain_0_6
    | 7, _ =>
      exact codePlain_0_7
    | 8, _ =>
      exact codePlain_0_8
    | 9, _ =>
      exact codePlain_0_9
    | n + 10, h => exact absurd h (by omega)
  | 1, _ =>
    match r1, h1 with
    | 0, _ =>
      exact codePlain_1_0
    | 1, _ =>
      exact codePlain_1_1
    | 2, _ =>
      exact codePlain_1_2
    | 3, _ =>
      exact codePlain_1_3
    | 4, _ =>
      exact codePlain_1_4
    | 5, _ =>
      exact codePlain_1_5
    | 6, _ =>
      exact codePlain_1_6
    | 7, _ =>
      exact codePlain_1_7
    | 8, _ =>
      exact codePlain_1_8
    | 9, _ =>
      exact codePlain_1_9
    | n + 10, h => exact absurd h (by omega)
  | 2, _ =>
    match r1, h1 with
    | 0, _ =>
      exact codePlain_2_0
    | 1, _ =>
      exact codePlain_2_1
    | 2, _ =>
      exact codePlain_2_2
    | 3, _ =>
      exact codePlain_2_3
    | 4, _ =>
      exact codePlain_2_4
    | 5, _ =>
      exact codePlain_2_5
    | 6, _ =>
      exact codePlain_2_6
    | 7, _ =>
      exact codePlain_2_7
    | 8, _ =>
      exact codePlain_2_8
    | 9, _ =>
      exact codePlain_2_9
    | n + 10, h => exact absurd h (by omega)
  | 3, _ =>
    match r1, h1 with
    | 0, _ =>
      exact codePlain_3_0
    | 1, _ =>
      exact codePlain_3_1
    | 2, _ =>
      exact codePlain_3_2
    | 3, _ =>
      exact codePlain_3_3
    | 4, _ =>
      exact codePlain_3_4
    | 5, _ =>
      exact codePlain_3_5
    | 6, _ =>
      exact codePlain_3_6
    | 7, _ =>
      exact codePlain_3_7
    | 8, _ =>
      exact codePlain_3_8
    | 9, _ =>
      exact codePlain_3_9
    | n + 10, h => exact absurd h (by omega)
  | 4, _ =>
    match r1, h1 with
    | 0, _ =>
      exact codePlain_4_0
    | 1, _ =>
      exact codePlain_4_1
    | 2, _ =>
      exact codePlain_4_2
    | 3, _ =>
      exact codePlain_4_3
    | 4, _ =>
      exact codePlain_4_4
    | 5, _ =>
      exact codePlain_4_5
    | 6, _ =>
      exact codePlain_4_6
    | 7, _ =>
      exact codePlain_4_7
    | 8, _ =>
      exact codePlain_4_8
    | 9, _ =>
      exact codePlain_4_9
    | n + 10, h => exact absurd h (by omega)
  | 5, _ =>
    match r1, h1 with
    | 0, _ =>
      exact codePlain_5_0
    | 1, _ =>
      exact codePlain_5_1
    | 2, _ =>
      exact codePlain_5_2
    | 3, _ =>
      exact codePlain_5_3
    | 4, _ =>
      exact codePlain_5_4
    | 5, _ =>
      exact codePlain_5_5
    | 6, _ =>
      exact codePlain_5_6
    | 7, _ =>
      exact codePlain_5_7
    | 8, _ =>
      exact codePlain_5_8
    | 9, _ =>
      exact codePlain_5_9
    | n + 10, h => exact absurd h (by omega)
  | 6, _ =>
    match r1, h1 with
    | 0, _ =>
      exact codePlain_6_0
    | 1, _ =>
      exact codePlain_6_1
    | 2, _ =>
      exact codePlain_6_2
    | 3, _ =>
      exact codePlain_6_3
    | 4, _ =>
      exact codePlain_6_4
    | 5, _ =>
      exact codePlain_6_5
    | 6, _ =>
      exact codePlain_6_6
    | 7, _ =>
      exact codePlain_6_7
    | 8, _ =>
      exact codePlain_6_8
    | 9, _ =>
      exact codePlain_6_9
    | n + 10, h => exact absurd h (by omega)
  | 7, _ =>
    match r1, h1 with
    | 0, _ =>
      exact codePlain_7_0
    | 1, _ =>
      exact codePlain_7_1
    | 2, _ =>
      exact codePlain_7_2
    | 3, _ =>
      exact codePlain_7_3
    | 4, _ =>
      exact codePlain_7_4
    | 5, _ =>
      exact codePlain_7_5
    | 6, _ =>
      exact codePlain_7_6
    | 7, _ =>
      exact codePlain_7_7
    | 8, _ =>
      exact codePlain_7_8
    | 9, _ =>
      exact codePlain_7_9
    | n + 10, h => exact absurd h (by omega)
  | n + 8, h => exact absurd h (by omega)
theorem codePlain_walk (a0 : Int) (a1 : Int) (w : World) (w0 : (Lit.int .i64 a0).wf = true) (w1 : (Lit.int .i64 a1).wf = true) : Calls Try.prog 5 #[Value.int .i64 a0, Value.int .i64 a1] w fun e w' => e = .returned (.bool true) ∧ Below w.heap.size w w' := by
  obtain ⟨r0, h0, e0⟩ := mod_cases a0 8 (by decide)
  obtain ⟨r1, h1, e1⟩ := mod_cases a1 10 (by decide)
  exact fin_memo memo_ok (zs2 a0 a1) place_ok names_ok mixed (fun fn h => by rw [Try.func5] at h; obtain rfl := Option.some.inj h; rfl) (zs2_wf w0 w1) (tab2_ok (by decide) (by decide) e0 (by decide) (by decide) e1) (.cons _ _ _ _ (.sym 0) (.cons _ _ _ _ (.sym 1) .nil)) (codePlain_all r0 r1 h0 h1)
end Go.Proofs.Ytlnjikneepgpaaa.Fin
