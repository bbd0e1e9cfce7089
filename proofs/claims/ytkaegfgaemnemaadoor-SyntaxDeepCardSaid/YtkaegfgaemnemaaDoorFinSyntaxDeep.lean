/- The law SyntaxDeep: each case of it, and with them its walk. -/
import Derived.Test.YtkaegfgaemnemaaDoorFinSyntaxDeep0
import Derived.Test.YtkaegfgaemnemaaDoorFinSyntaxDeep1
import Derived.Test.YtkaegfgaemnemaaDoorFinSyntaxDeep2
import Derived.Test.YtkaegfgaemnemaaDoorFinSyntaxDeep3
import Derived.Test.YtkaegfgaemnemaaDoorFinSyntaxDeep4
import Derived.Test.YtkaegfgaemnemaaDoorFinSyntaxDeep5
import Derived.Test.YtkaegfgaemnemaaDoorFinSyntaxDeep6
import Derived.Test.YtkaegfgaemnemaaDoorFinSyntaxDeep7
import Derived.Test.YtkaegfgaemnemaaDoorFinSyntaxDeep8
import Derived.Test.YtkaegfgaemnemaaDoorFinSyntaxDeep9
import Derived.Test.YtkaegfgaemnemaaDoorFinSyntaxDeep10
import Derived.Test.YtkaegfgaemnemaaDoorFinSyntaxDeep11
import Derived.Test.YtkaegfgaemnemaaDoorFinSyntaxDeep12
import Derived.Test.YtkaegfgaemnemaaDoorFinSyntaxDeep13
import Derived.Test.YtkaegfgaemnemaaDoorFinSyntaxDeep14
import Derived.Test.YtkaegfgaemnemaaDoorFinSyntaxDeep15
import Derived.Test.YtkaegfgaemnemaaDoorFinSyntaxDeep16
import Derived.Test.YtkaegfgaemnemaaDoorFinSyntaxDeep17
import Derived.Test.YtkaegfgaemnemaaDoorFinSyntaxDeep18
import Derived.Test.YtkaegfgaemnemaaDoorFinSyntaxDeep19
namespace Go.Proofs.YtkaegfgaemnemaaDoor.Fin
open Go.Proofs.YtkaegfgaemnemaaDoor.Fast Go.RowKit
set_option linter.unusedVariables false

theorem syntaxDeep_all (r0 : Nat) (b1 : Bool) (h0 : r0 < 60) : syntaxDeepGo r0 b1 = true := by
  match r0, h0 with
  | 0, _ =>
    cases b1 with
    | false =>
      exact syntaxDeep_0_false
    | true =>
      exact syntaxDeep_0_true
  | 1, _ =>
    cases b1 with
    | false =>
      exact syntaxDeep_1_false
    | true =>
      exact syntaxDeep_1_true
  | 2, _ =>
    cases b1 with
    | false =>
      exact syntaxDeep_2_false
    | true =>
      exact syntaxDeep_2_true
  | 3, _ =>
    cases b1 with
    | false =>
      exact syntaxDeep_3_false
    | true =>
      exact syntaxDeep_3_true
  | 4, _ =>
    cases b1 with
    | false =>
      exact syntaxDeep_4_false
    | true =>
      exact syntaxDeep_4_true
  | 5, _ =>
    cases b1 with
    | false =>
      exact syntaxDeep_5_false
    | true =>
      exact syntaxDeep_5_true
  | 6, _ =>
    cases b1 with
    | false =>
      exact syntaxDeep_6_false
    | true =>
      exact syntaxDeep_6_true
  | 7, _ =>
    cases b1 with
    | false =>
      exact syntaxDeep_7_false
    | true =>
      exact syntaxDeep_7_true
  | 8, _ =>
    cases b1 with
    | false =>
      exact syntaxDeep_8_false
    | true =>
      exact syntaxDeep_8_true
  | 9, _ =>
    cases b1 with
    | false =>
      exact syntaxDeep_9_false
    | true =>
      exact syntaxDeep_9_true
  | 10, _ =>
    cases b1 with
    | false =>
      exact syntaxDeep_10_false
    | true =>
      exact syntaxDeep_10_true
  | 11, _ =>
    cases b1 with
    | false =>
      exact syntaxDeep_11_false
    | true =>
      exact syntaxDeep_11_true
  | 12, _ =>
    cases b1 with
    | false =>
      exact syntaxDeep_12_false
    | true =>
      exact syntaxDeep_12_true
  | 13, _ =>
    cases b1 with
    | false =>
      exact syntaxDeep_13_false
    | true =>
      exact syntaxDeep_13_true
  | 14, _ =>
    cases b1 with
    | false =>
      exact syntaxDeep_14_false
    | true =>
      exact syntaxDeep_14_true
  | 15, _ =>
    cases b1 with
    | false =>
      exact syntaxDeep_15_false
    | true =>
      exact syntaxDeep_15_true
  | 16, _ =>
    cases b1 with
    | false =>
      exact syntaxDeep_16_false
    | true =>
      exact syntaxDeep_16_true
  | 17, _ =>
    cases b1 with
    | false =>
      exact syntaxDeep_17_false
    | true =>
      exact syntaxDeep_17_true
  | 18, _ =>
    cases b1 with
    | false =>
      exact syntaxDeep_18_false
    | true =>
      exact syntaxDeep_18_true
  | 19, _ =>
    cases b1 with
    | false =>
      exact syntaxDeep_19_false
    | true =>
      exact syntaxDeep_19_true
  | 20, _ =>
    cases b1 with
    | false =>
      exact syntaxDeep_20_false
    | true =>
      exact syntaxDeep_20_true
  | 21, _ =>
    cases b1 with
    | false =>
      exact syntaxDeep_21_false
    | true =>
      exact syntaxDeep_21_true
  | 22, _ =>
    cases b1 with
    | false =>
      exact syntaxDeep_22_false
    | true =>
      exact syntaxDeep_22_true
  | 23, _ =>
    cases b1 with
    | false =>
      exact syntaxDeep_23_false
    | true =>
      exact syntaxDeep_23_true
  | 24, _ =>
    cases b1 with
    | false =>
      exact syntaxDeep_24_false
    | true =>
      exact syntaxDeep_24_true
  | 25, _ =>
    cases b1 with
    | false =>
      exact syntaxDeep_25_false
    | true =>
      exact syntaxDeep_25_true
  | 26, _ =>
    cases b1 with
    | false =>
      exact syntaxDeep_26_false
    | true =>
      exact syntaxDeep_26_true
  | 27, _ =>
    cases b1 with
    | false =>
      exact syntaxDeep_27_false
    | true =>
      exact syntaxDeep_27_true
  | 28, _ =>
    cases b1 with
    | false =>
      exact syntaxDeep_28_false
    | true =>
      exact syntaxDeep_28_true
  | 29, _ =>
    cases b1 with
    | false =>
      exact syntaxDeep_29_false
    | true =>
      exact syntaxDeep_29_true
  | 30, _ =>
    cases b1 with
    | false =>
      exact syntaxDeep_30_false
    | true =>
      exact syntaxDeep_30_true
  | 31, _ =>
    cases b1 with
    | false =>
      exact syntaxDeep_31_false
    | true =>
      exact syntaxDeep_31_true
  | 32, _ =>
    cases b1 with
    | false =>
      exact syntaxDeep_32_false
    | true =>
      exact syntaxDeep_32_true
  | 33, _ =>
    cases b1 with
    | false =>
      exact syntaxDeep_33_false
    | true =>
      exact syntaxDeep_33_true
  | 34, _ =>
    cases b1 with
    | false =>
      exact syntaxDeep_34_false
    | true =>
      exact syntaxDeep_34_true
  | 35, _ =>
    cases b1 with
    | false =>
      exact syntaxDeep_35_false
    | true =>
      exact syntaxDeep_35_true
  | 36, _ =>
    cases b1 with
    | false =>
      exact syntaxDeep_36_false
    | true =>
      exact syntaxDeep_36_true
  | 37, _ =>
    cases b1 with
    | false =>
      exact syntaxDeep_37_false
    | true =>
      exact syntaxDeep_37_true
  | 38, _ =>
    cases b1 with
    | false =>
      exact syntaxDeep_38_false
    | true =>
      exact syntaxDeep_38_true
  | 39, _ =>
    cases b1 with
    | false =>
      exact syntaxDeep_39_false
    | true =>
      exact syntaxDeep_39_true
  | 40, _ =>
    cases b1 with
    | false =>
      exact syntaxDeep_40_false
    | true =>
      exact syntaxDeep_40_true
  | 41, _ =>
    cases b1 with
    | false =>
      exact syntaxDeep_41_false
    | true =>
      exact syntaxDeep_41_true
  | 42, _ =>
    cases b1 with
    | false =>
      exact syntaxDeep_42_false
    | true =>
      exact syntaxDeep_42_true
  | 43, _ =>
    cases b1 with
    | false =>
      exact syntaxDeep_43_false
    | true =>
      exact syntaxDeep_43_true
  | 44, _ =>
    cases b1 with
    | false =>
      exact syntaxDeep_44_false
    | true =>
      exact syntaxDeep_44_true
  | 45, _ =>
    cases b1 with
    | false =>
      exact syntaxDeep_45_false
    | true =>
      exact syntaxDeep_45_true
  | 46, _ =>
    cases b1 with
    | false =>
      exact syntaxDeep_46_false
    | true =>
      exact syntaxDeep_46_true
  | 47, _ =>
    cases b1 with
    | false =>
      exact syntaxDeep_47_false
    | true =>
      exact syntaxDeep_47_true
  | 48, _ =>
    cases b1 with
    | false =>
      exact syntaxDeep_48_false
    | true =>
      exact syntaxDeep_48_true
  | 49, _ =>
    cases b1 with
    | false =>
      exact syntaxDeep_49_false
    | true =>
      exact syntaxDeep_49_true
  | 50, _ =>
    cases b1 with
    | false =>
      exact syntaxDeep_50_false
    | true =>
      exact syntaxDeep_50_true
  | 51, _ =>
    cases b1 with
    | false =>
      exact syntaxDeep_51_false
    | true =>
      exact syntaxDeep_51_true
  | 52, _ =>
    cases b1 with
    | false =>
      exact syntaxDeep_52_false
    | true =>
      exact syntaxDeep_52_true
  | 53, _ =>
    cases b1 with
    | false =>
      exact syntaxDeep_53_false
    | true =>
      exact syntaxDeep_53_true
  | 54, _ =>
    cases b1 with
    | false =>
      exact syntaxDeep_54_false
    | true =>
      exact syntaxDeep_54_true
  | 55, _ =>
    cases b1 with
    | false =>
      exact syntaxDeep_55_false
    | true =>
      exact syntaxDeep_55_true
  | 56, _ =>
    cases b1 with
    | false =>
      exact syntaxDeep_56_false
    | true =>
      exact syntaxDeep_56_true
  | 57, _ =>
    cases b1 with
    | false =>
      exact syntaxDeep_57_false
    | true =>
      exact syntaxDeep_57_true
  | 58, _ =>
    cases b1 with
    | false =>
      exact syntaxDeep_58_false
    | true =>
      exact syntaxDeep_58_true
  | 59, _ =>
    cases b1 with
    | false =>
      exact syntaxDeep_59_false
    | true =>
      exact syntaxDeep_59_true
  | n + 60, h => exact absurd h (by omega)
theorem syntaxDeep_walk (a0 : Int) (b1 : Bool) (w : World) (w0 : (Lit.int .i64 a0).wf = true) : Calls Tryd.prog 3 #[Value.int .i64 a0, Value.bool b1] w fun e w' => e = .returned (.bool true) ∧ Below w.heap.size w w' := by
  obtain ⟨r0, h0, e0⟩ := mod_cases a0 60 (by decide)
  exact fin_memo memo_ok (fun _ => a0) place_ok names_ok mixed (fun fn h => by rw [Tryd.func3] at h; obtain rfl := Option.some.inj h; rfl) (fun _ => w0) (tab1_ok (by decide) (by decide) e0) (.cons _ _ _ _ (.sym 0) (.cons _ _ _ _ (.bool _) .nil)) (syntaxDeep_all r0 b1 h0)
end Go.Proofs.YtkaegfgaemnemaaDoor.Fin
