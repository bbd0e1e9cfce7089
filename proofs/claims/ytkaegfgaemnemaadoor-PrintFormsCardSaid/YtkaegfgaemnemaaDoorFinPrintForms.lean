/- The law PrintForms: each case of it, and with them its walk. -/
import Derived.Test.YtkaegfgaemnemaaDoorFinPrintForms0
import Derived.Test.YtkaegfgaemnemaaDoorFinPrintForms1
import Derived.Test.YtkaegfgaemnemaaDoorFinPrintForms2
import Derived.Test.YtkaegfgaemnemaaDoorFinPrintForms3
import Derived.Test.YtkaegfgaemnemaaDoorFinPrintForms4
import Derived.Test.YtkaegfgaemnemaaDoorFinPrintForms5
import Derived.Test.YtkaegfgaemnemaaDoorFinPrintForms6
import Derived.Test.YtkaegfgaemnemaaDoorFinPrintForms7
import Derived.Test.YtkaegfgaemnemaaDoorFinPrintForms8
import Derived.Test.YtkaegfgaemnemaaDoorFinPrintForms9
import Derived.Test.YtkaegfgaemnemaaDoorFinPrintForms10
import Derived.Test.YtkaegfgaemnemaaDoorFinPrintForms11
import Derived.Test.YtkaegfgaemnemaaDoorFinPrintForms12
import Derived.Test.YtkaegfgaemnemaaDoorFinPrintForms13
import Derived.Test.YtkaegfgaemnemaaDoorFinPrintForms14
import Derived.Test.YtkaegfgaemnemaaDoorFinPrintForms15
import Derived.Test.YtkaegfgaemnemaaDoorFinPrintForms16
import Derived.Test.YtkaegfgaemnemaaDoorFinPrintForms17
import Derived.Test.YtkaegfgaemnemaaDoorFinPrintForms18
import Derived.Test.YtkaegfgaemnemaaDoorFinPrintForms19
namespace Go.Proofs.YtkaegfgaemnemaaDoor.Fin
open Go.Proofs.YtkaegfgaemnemaaDoor.Fast Go.RowKit
set_option linter.unusedVariables false

theorem printForms_all (r0 : Nat) (r1 : Nat) (h0 : r0 < 10) (h1 : r1 < 16) : printFormsGo r0 r1 = true := by
  match r0, h0 with
  | 0, _ =>
    match r1, h1 with
    | 0, _ =>
      exact printForms_0_0
    | 1, _ =>
      exact printForms_0_1
    | 2, _ =>
      exact printForms_0_2
    | 3, _ =>
      exact printForms_0_3
    | 4, _ =>
      exact printForms_0_4
    | 5, _ =>
      exact printForms_0_5
    | 6, _ =>
      exact printForms_0_6
    | 7, _ =>
      exact printForms_0_7
    | 8, _ =>
      exact printForms_0_8
    | 9, _ =>
      exact printForms_0_9
    | 10, _ =>
      exact printForms_0_10
    | 11, _ =>
      exact printForms_0_11
    | 12, _ =>
      exact printForms_0_12
    | 13, _ =>
      exact printForms_0_13
    | 14, _ =>
      exact printForms_0_14
    | 15, _ =>
      exact printForms_0_15
    | n + 16, h => exact absurd h (by omega)
  | 1, _ =>
    match r1, h1 with
    | 0, _ =>
      exact printForms_1_0
    | 1, _ =>
      exact printForms_1_1
    | 2, _ =>
      exact printForms_1_2
    | 3, _ =>
      exact printForms_1_3
    | 4, _ =>
      exact printForms_1_4
    | 5, _ =>
      exact printForms_1_5
    | 6, _ =>
      exact printForms_1_6
    | 7, _ =>
      exact printForms_1_7
    | 8, _ =>
      exact printForms_1_8
    | 9, _ =>
      exact printForms_1_9
    | 10, _ =>
      exact printForms_1_10
    | 11, _ =>
      exact printForms_1_11
    | 12, _ =>
      exact printForms_1_12
    | 13, _ =>
      exact printForms_1_13
    | 14, _ =>
      exact printForms_1_14
    | 15, _ =>
      exact printForms_1_15
    | n + 16, h => exact absurd h (by omega)
  | 2, _ =>
    match r1, h1 with
    | 0, _ =>
      exact printForms_2_0
    | 1, _ =>
      exact printForms_2_1
    | 2, _ =>
      exact printForms_2_2
    | 3, _ =>
      exact printForms_2_3
    | 4, _ =>
      exact printForms_2_4
    | 5, _ =>
      exact printForms_2_5
    | 6, _ =>
      exact printForms_2_6
    | 7, _ =>
      exact printForms_2_7
    | 8, _ =>
      exact printForms_2_8
    | 9, _ =>
      exact printForms_2_9
    | 10, _ =>
      exact printForms_2_10
    | 11, _ =>
      exact printForms_2_11
    | 12, _ =>
      exact printForms_2_12
    | 13, _ =>
      exact printForms_2_13
    | 14, _ =>
      exact printForms_2_14
    | 15, _ =>
      exact printForms_2_15
    | n + 16, h => exact absurd h (by omega)
  | 3, _ =>
    match r1, h1 with
    | 0, _ =>
      exact printForms_3_0
    | 1, _ =>
      exact printForms_3_1
    | 2, _ =>
      exact printForms_3_2
    | 3, _ =>
      exact printForms_3_3
    | 4, _ =>
      exact printForms_3_4
    | 5, _ =>
      exact printForms_3_5
    | 6, _ =>
      exact printForms_3_6
    | 7, _ =>
      exact printForms_3_7
    | 8, _ =>
      exact printForms_3_8
    | 9, _ =>
      exact printForms_3_9
    | 10, _ =>
      exact printForms_3_10
    | 11, _ =>
      exact printForms_3_11
    | 12, _ =>
      exact printForms_3_12
    | 13, _ =>
      exact printForms_3_13
    | 14, _ =>
      exact printForms_3_14
    | 15, _ =>
      exact printForms_3_15
    | n + 16, h => exact absurd h (by omega)
  | 4, _ =>
    match r1, h1 with
    | 0, _ =>
      exact printForms_4_0
    | 1, _ =>
      exact printForms_4_1
    | 2, _ =>
      exact printForms_4_2
    | 3, _ =>
      exact printForms_4_3
    | 4, _ =>
      exact printForms_4_4
    | 5, _ =>
      exact printForms_4_5
    | 6, _ =>
      exact printForms_4_6
    | 7, _ =>
      exact printForms_4_7
    | 8, _ =>
      exact printForms_4_8
    | 9, _ =>
      exact printForms_4_9
    | 10, _ =>
      exact printForms_4_10
    | 11, _ =>
      exact printForms_4_11
    | 12, _ =>
      exact printForms_4_12
    | 13, _ =>
      exact printForms_4_13
    | 14, _ =>
      exact printForms_4_14
    | 15, _ =>
      exact printForms_4_15
    | n + 16, h => exact absurd h (by omega)
  | 5, _ =>
    match r1, h1 with
    | 0, _ =>
      exact printForms_5_0
    | 1, _ =>
      exact printForms_5_1
    | 2, _ =>
      exact printForms_5_2
    | 3, _ =>
      exact printForms_5_3
    | 4, _ =>
      exact printForms_5_4
    | 5, _ =>
      exact printForms_5_5
    | 6, _ =>
      exact printForms_5_6
    | 7, _ =>
      exact printForms_5_7
    | 8, _ =>
      exact printForms_5_8
    | 9, _ =>
      exact printForms_5_9
    | 10, _ =>
      exact printForms_5_10
    | 11, _ =>
      exact printForms_5_11
    | 12, _ =>
      exact printForms_5_12
    | 13, _ =>
      exact printForms_5_13
    | 14, _ =>
      exact printForms_5_14
    | 15, _ =>
      exact printForms_5_15
    | n + 16, h => exact absurd h (by omega)
  | 6, _ =>
    match r1, h1 with
    | 0, _ =>
      exact printForms_6_0
    | 1, _ =>
      exact printForms_6_1
    | 2, _ =>
      exact printForms_6_2
    | 3, _ =>
      exact printForms_6_3
    | 4, _ =>
      exact printForms_6_4
    | 5, _ =>
      exact printForms_6_5
    | 6, _ =>
      exact printForms_6_6
    | 7, _ =>
      exact printForms_6_7
    | 8, _ =>
      exact printForms_6_8
    | 9, _ =>
      exact printForms_6_9
    | 10, _ =>
      exact printForms_6_10
    | 11, _ =>
      exact printForms_6_11
    | 12, _ =>
      exact printForms_6_12
    | 13, _ =>
      exact printForms_6_13
    | 14, _ =>
      exact printForms_6_14
    | 15, _ =>
      exact printForms_6_15
    | n + 16, h => exact absurd h (by omega)
  | 7, _ =>
    match r1, h1 with
    | 0, _ =>
      exact printForms_7_0
    | 1, _ =>
      exact printForms_7_1
    | 2, _ =>
      exact printForms_7_2
    | 3, _ =>
      exact printForms_7_3
    | 4, _ =>
      exact printForms_7_4
    | 5, _ =>
      exact printForms_7_5
    | 6, _ =>
      exact printForms_7_6
    | 7, _ =>
      exact printForms_7_7
    | 8, _ =>
      exact printForms_7_8
    | 9, _ =>
      exact printForms_7_9
    | 10, _ =>
      exact printForms_7_10
    | 11, _ =>
      exact printForms_7_11
    | 12, _ =>
      exact printForms_7_12
    | 13, _ =>
      exact printForms_7_13
    | 14, _ =>
      exact printForms_7_14
    | 15, _ =>
      exact printForms_7_15
    | n + 16, h => exact absurd h (by omega)
  | 8, _ =>
    match r1, h1 with
    | 0, _ =>
      exact printForms_8_0
    | 1, _ =>
      exact printForms_8_1
    | 2, _ =>
      exact printForms_8_2
    | 3, _ =>
      exact printForms_8_3
    | 4, _ =>
      exact printForms_8_4
    | 5, _ =>
      exact printForms_8_5
    | 6, _ =>
      exact printForms_8_6
    | 7, _ =>
      exact printForms_8_7
    | 8, _ =>
      exact printForms_8_8
    | 9, _ =>
      exact printForms_8_9
    | 10, _ =>
      exact printForms_8_10
    | 11, _ =>
      exact printForms_8_11
    | 12, _ =>
      exact printForms_8_12
    | 13, _ =>
      exact printForms_8_13
    | 14, _ =>
      exact printForms_8_14
    | 15, _ =>
      exact printForms_8_15
    | n + 16, h => exact absurd h (by omega)
  | 9, _ =>
    match r1, h1 with
    | 0, _ =>
      exact printForms_9_0
    | 1, _ =>
      exact printForms_9_1
    | 2, _ =>
      exact printForms_9_2
    | 3, _ =>
      exact printForms_9_3
    | 4, _ =>
      exact printForms_9_4
    | 5, _ =>
      exact printForms_9_5
    | 6, _ =>
      exact printForms_9_6
    | 7, _ =>
      exact printForms_9_7
    | 8, _ =>
      exact printForms_9_8
    | 9, _ =>
      exact printForms_9_9
    | 10, _ =>
      exact printForms_9_10
    | 11, _ =>
      exact printForms_9_11
    | 12, _ =>
      exact printForms_9_12
    | 13, _ =>
      exact printForms_9_13
    | 14, _ =>
      exact printForms_9_14
    | 15, _ =>
      exact printForms_9_15
    | n + 16, h => exact absurd h (by omega)
  | n + 10, h => exact absurd h (by omega)
theorem printForms_walk (a0 : Int) (a1 : Int) (w : World) (w0 : (Lit.int .i64 a0).wf = true) (w1 : (Lit.int .i64 a1).wf = true) : Calls Tryd.prog 8 #[Value.int .i64 a0, Value.int .i64 a1] w fun e w' => e = .returned (.bool true) ∧ Below w.heap.size w w' := by
  obtain ⟨r0, h0, e0⟩ := mod_cases a0 10 (by decide)
  obtain ⟨r1, h1, e1⟩ := mod_cases a1 16 (by decide)
  exact fin_memo memo_ok (zs2 a0 a1) place_ok names_ok mixed (fun fn h => by rw [Tryd.func8] at h; obtain rfl := Option.some.inj h; rfl) (zs2_wf w0 w1) (tab2_ok (by decide) (by decide) e0 (by decide) (by decide) e1) (.cons _ _ _ _ (.sym 0) (.cons _ _ _ _ (.sym 1) .nil)) (printForms_all r0 r1 h0 h1)
end Go.Proofs.YtkaegfgaemnemaaDoor.Fin
