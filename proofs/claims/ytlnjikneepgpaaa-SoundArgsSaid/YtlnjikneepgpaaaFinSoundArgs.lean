/- The law SoundArgs: each case of it, and with them its walk. -/
import Derived.Test.YtlnjikneepgpaaaFinSoundArgs0
import Derived.Test.YtlnjikneepgpaaaFinSoundArgs1
import Derived.Test.YtlnjikneepgpaaaFinSoundArgs2
import Derived.Test.YtlnjikneepgpaaaFinSoundArgs3
import Derived.Test.YtlnjikneepgpaaaFinSoundArgs4
import Derived.Test.YtlnjikneepgpaaaFinSoundArgs5
import Derived.Test.YtlnjikneepgpaaaFinSoundArgs6
import Derived.Test.YtlnjikneepgpaaaFinSoundArgs7
namespace Go.Proofs.Ytlnjikneepgpaaa.Fin
open Go.Proofs.Ytlnjikneepgpaaa.Fast Go.RowKit
set_option linter.unusedVariables false

theorem soundArgs_all (r0 : Nat) (r1 : Nat) (b2 : Bool) (h0 : r0 < 8) (h1 : r1 < 8) : soundArgsGo r0 r1 b2 = true := by
  match r0, h0 with
  | 0, _ =>
    match r1, h1 with
    | 0, _ =>
      cases b2 with
      | false =>
        exact soundArgs_0_0_false
      | true =>
        exact soundArgs_0_0_true
    | 1, _ =>
      cases b2 with
      | false =>
        exact soundArgs_0_1_false
      | true =>
        exact soundArgs_0_1_true
    | 2, _ =>
      cases b2 with
      | false =>
        exact soundArgs_0_2_false
      | true =>
        exact soundArgs_0_2_true
    | 3, _ =>
      cases b2 with
      | false =>
        exact soundArgs_0_3_false
      | true =>
        exact soundArgs_0_3_true
    | 4, _ =>
      cases b2 with
      | false =>
        exact soundArgs_0_4_false
      | true =>
        exact soundArgs_0_4_true
    | 5, _ =>
      cases b2 with
      | false =>
        exact soundArgs_0_5_false
      | true =>
        exact soundArgs_0_5_true
    | 6, _ =>
      cases b2 with
      | false =>
        exact soundArgs_0_6_false
      | true =>
        exact soundArgs_0_6_true
    | 7, _ =>
      cases b2 with
      | false =>
        exact soundArgs_0_7_false
      | true =>
        exact soundArgs_0_7_true
    | n + 8, h => exact absurd h (by omega)
  | 1, _ =>
    match r1, h1 with
    | 0, _ =>
      cases b2 with
      | false =>
        exact soundArgs_1_0_false
      | true =>
        exact soundArgs_1_0_true
    | 1, _ =>
      cases b2 with
      | false =>
        exact soundArgs_1_1_false
      | true =>
        exact soundArgs_1_1_true
    | 2, _ =>
      cases b2 with
      | false =>
        exact soundArgs_1_2_false
      | true =>
        exact soundArgs_1_2_true
    | 3, _ =>
      cases b2 with
      | false =>
        exact soundArgs_1_3_false
      | true =>
        exact soundArgs_1_3_true
    | 4, _ =>
      cases b2 with
      | false =>
        exact soundArgs_1_4_false
      | true =>
        exact soundArgs_1_4_true
    | 5, _ =>
      cases b2 with
      | false =>
        exact soundArgs_1_5_false
      | true =>
        exact soundArgs_1_5_true
    | 6, _ =>
      cases b2 with
      | false =>
        exact soundArgs_1_6_false
      | true =>
        exact soundArgs_1_6_true
    | 7, _ =>
      cases b2 with
      | false =>
        exact soundArgs_1_7_false
      | true =>
        exact soundArgs_1_7_true
    | n + 8, h => exact absurd h (by omega)
  | 2, _ =>
    match r1, h1 with
    | 0, _ =>
      cases b2 with
      | false =>
        exact soundArgs_2_0_false
      | true =>
        exact soundArgs_2_0_true
    | 1, _ =>
      cases b2 with
      | false =>
        exact soundArgs_2_1_false
      | true =>
        exact soundArgs_2_1_true
    | 2, _ =>
      cases b2 with
      | false =>
        exact soundArgs_2_2_false
      | true =>
        exact soundArgs_2_2_true
    | 3, _ =>
      cases b2 with
      | false =>
        exact soundArgs_2_3_false
      | true =>
        exact soundArgs_2_3_true
    | 4, _ =>
      cases b2 with
      | false =>
        exact soundArgs_2_4_false
      | true =>
        exact soundArgs_2_4_true
    | 5, _ =>
      cases b2 with
      | false =>
        exact soundArgs_2_5_false
      | true =>
        exact soundArgs_2_5_true
    | 6, _ =>
      cases b2 with
      | false =>
        exact soundArgs_2_6_false
      | true =>
        exact soundArgs_2_6_true
    | 7, _ =>
      cases b2 with
      | false =>
        exact soundArgs_2_7_false
      | true =>
        exact soundArgs_2_7_true
    | n + 8, h => exact absurd h (by omega)
  | 3, _ =>
    match r1, h1 with
    | 0, _ =>
      cases b2 with
      | false =>
        exact soundArgs_3_0_false
      | true =>
        exact soundArgs_3_0_true
    | 1, _ =>
      cases b2 with
      | false =>
        exact soundArgs_3_1_false
      | true =>
        exact soundArgs_3_1_true
    | 2, _ =>
      cases b2 with
      | false =>
        exact soundArgs_3_2_false
      | true =>
        exact soundArgs_3_2_true
    | 3, _ =>
      cases b2 with
      | false =>
        exact soundArgs_3_3_false
      | true =>
        exact soundArgs_3_3_true
    | 4, _ =>
      cases b2 with
      | false =>
        exact soundArgs_3_4_false
      | true =>
        exact soundArgs_3_4_true
    | 5, _ =>
      cases b2 with
      | false =>
        exact soundArgs_3_5_false
      | true =>
        exact soundArgs_3_5_true
    | 6, _ =>
      cases b2 with
      | false =>
        exact soundArgs_3_6_false
      | true =>
        exact soundArgs_3_6_true
    | 7, _ =>
      cases b2 with
      | false =>
        exact soundArgs_3_7_false
      | true =>
        exact soundArgs_3_7_true
    | n + 8, h => exact absurd h (by omega)
  | 4, _ =>
    match r1, h1 with
    | 0, _ =>
      cases b2 with
      | false =>
        exact soundArgs_4_0_false
      | true =>
        exact soundArgs_4_0_true
    | 1, _ =>
      cases b2 with
      | false =>
        exact soundArgs_4_1_false
      | true =>
        exact soundArgs_4_1_true
    | 2, _ =>
      cases b2 with
      | false =>
        exact soundArgs_4_2_false
      | true =>
        exact soundArgs_4_2_true
    | 3, _ =>
      cases b2 with
      | false =>
        exact soundArgs_4_3_false
      | true =>
        exact soundArgs_4_3_true
    | 4, _ =>
      cases b2 with
      | false =>
        exact soundArgs_4_4_false
      | true =>
        exact soundArgs_4_4_true
    | 5, _ =>
      cases b2 with
      | false =>
        exact soundArgs_4_5_false
      | true =>
        exact soundArgs_4_5_true
    | 6, _ =>
      cases b2 with
      | false =>
        exact soundArgs_4_6_false
      | true =>
        exact soundArgs_4_6_true
    | 7, _ =>
      cases b2 with
      | false =>
        exact soundArgs_4_7_false
      | true =>
        exact soundArgs_4_7_true
    | n + 8, h => exact absurd h (by omega)
  | 5, _ =>
    match r1, h1 with
    | 0, _ =>
      cases b2 with
      | false =>
        exact soundArgs_5_0_false
      | true =>
        exact soundArgs_5_0_true
    | 1, _ =>
      cases b2 with
      | false =>
        exact soundArgs_5_1_false
      | true =>
        exact soundArgs_5_1_true
    | 2, _ =>
      cases b2 with
      | false =>
        exact soundArgs_5_2_false
      | true =>
        exact soundArgs_5_2_true
    | 3, _ =>
      cases b2 with
      | false =>
        exact soundArgs_5_3_false
      | true =>
        exact soundArgs_5_3_true
    | 4, _ =>
      cases b2 with
      | false =>
        exact soundArgs_5_4_false
      | true =>
        exact soundArgs_5_4_true
    | 5, _ =>
      cases b2 with
      | false =>
        exact soundArgs_5_5_false
      | true =>
        exact soundArgs_5_5_true
    | 6, _ =>
      cases b2 with
      | false =>
        exact soundArgs_5_6_false
      | true =>
        exact soundArgs_5_6_true
    | 7, _ =>
      cases b2 with
      | false =>
        exact soundArgs_5_7_false
      | true =>
        exact soundArgs_5_7_true
    | n + 8, h => exact absurd h (by omega)
  | 6, _ =>
    match r1, h1 with
    | 0, _ =>
      cases b2 with
      | false =>
        exact soundArgs_6_0_false
      | true =>
        exact soundArgs_6_0_true
    | 1, _ =>
      cases b2 with
      | false =>
        exact soundArgs_6_1_false
      | true =>
        exact soundArgs_6_1_true
    | 2, _ =>
      cases b2 with
      | false =>
        exact soundArgs_6_2_false
      | true =>
        exact soundArgs_6_2_true
    | 3, _ =>
      cases b2 with
      | false =>
        exact soundArgs_6_3_false
      | true =>
        exact soundArgs_6_3_true
    | 4, _ =>
      cases b2 with
      | false =>
        exact soundArgs_6_4_false
      | true =>
        exact soundArgs_6_4_true
    | 5, _ =>
      cases b2 with
      | false =>
        exact soundArgs_6_5_false
      | true =>
        exact soundArgs_6_5_true
    | 6, _ =>
      cases b2 with
      | false =>
        exact soundArgs_6_6_false
      | true =>
        exact soundArgs_6_6_true
    | 7, _ =>
      cases b2 with
      | false =>
        exact soundArgs_6_7_false
      | true =>
        exact soundArgs_6_7_true
    | n + 8, h => exact absurd h (by omega)
  | 7, _ =>
    match r1, h1 with
    | 0, _ =>
      cases b2 with
      | false =>
        exact soundArgs_7_0_false
      | true =>
        exact soundArgs_7_0_true
    | 1, _ =>
      cases b2 with
      | false =>
        exact soundArgs_7_1_false
      | true =>
        exact soundArgs_7_1_true
    | 2, _ =>
      cases b2 with
      | false =>
        exact soundArgs_7_2_false
      | true =>
        exact soundArgs_7_2_true
    | 3, _ =>
      cases b2 with
      | false =>
        exact soundArgs_7_3_false
      | true =>
        exact soundArgs_7_3_true
    | 4, _ =>
      cases b2 with
      | false =>
        exact soundArgs_7_4_false
      | true =>
        exact soundArgs_7_4_true
    | 5, _ =>
      cases b2 with
      | false =>
        exact soundArgs_7_5_false
      | true =>
        exact soundArgs_7_5_true
    | 6, _ =>
      cases b2 with
      | false =>
        exact soundArgs_7_6_false
      | true =>
        exact soundArgs_7_6_true
    | 7, _ =>
      cases b2 with
      | false =>
        exact soundArgs_7_7_false
      | true =>
        exact soundArgs_7_7_true
    | n + 8, h => exact absurd h (by omega)
  | n + 8, h => exact absurd h (by omega)
theorem soundArgs_walk (a0 : Int) (a1 : Int) (b2 : Bool) (w : World) (w0 : (Lit.int .i64 a0).wf = true) (w1 : (Lit.int .i64 a1).wf = true) : Calls Try.prog 9 #[Value.int .i64 a0, Value.int .i64 a1, Value.bool b2] w fun e w' => e = .returned (.bool true) ∧ Below w.heap.size w w' := by
  obtain ⟨r0, h0, e0⟩ := mod_cases a0 8 (by decide)
  obtain ⟨r1, h1, e1⟩ := mod_cases a1 8 (by decide)
  exact fin_calls (zs2 a0 a1) place_ok names_ok mixed (fun fn h => by rw [Try.func9] at h; obtain rfl := Option.some.inj h; rfl) (zs2_wf w0 w1) (tab2_ok (by decide) (by decide) e0 (by decide) (by decide) e1) (.cons _ _ _ _ (.sym 0) (.cons _ _ _ _ (.sym 1) (.cons _ _ _ _ (.bool _) .nil))) (soundArgs_all r0 r1 b2 h0 h1)
end Go.Proofs.Ytlnjikneepgpaaa.Fin
