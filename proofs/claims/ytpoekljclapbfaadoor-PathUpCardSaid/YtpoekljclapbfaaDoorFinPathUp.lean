/- The law PathUp: each case of it, and with them its walk. -/
import Derived.Test.YtpoekljclapbfaaDoorFinPathUp0
import Derived.Test.YtpoekljclapbfaaDoorFinPathUp1
import Derived.Test.YtpoekljclapbfaaDoorFinPathUp2
import Derived.Test.YtpoekljclapbfaaDoorFinPathUp3
import Derived.Test.YtpoekljclapbfaaDoorFinPathUp4
import Derived.Test.YtpoekljclapbfaaDoorFinPathUp5
import Derived.Test.YtpoekljclapbfaaDoorFinPathUp6
import Derived.Test.YtpoekljclapbfaaDoorFinPathUp7
import Derived.Test.YtpoekljclapbfaaDoorFinPathUp8
import Derived.Test.YtpoekljclapbfaaDoorFinPathUp9
import Derived.Test.YtpoekljclapbfaaDoorFinPathUp10
import Derived.Test.YtpoekljclapbfaaDoorFinPathUp11
import Derived.Test.YtpoekljclapbfaaDoorFinPathUp12
import Derived.Test.YtpoekljclapbfaaDoorFinPathUp13
import Derived.Test.YtpoekljclapbfaaDoorFinPathUp14
import Derived.Test.YtpoekljclapbfaaDoorFinPathUp15
import Derived.Test.YtpoekljclapbfaaDoorFinPathUp16
import Derived.Test.YtpoekljclapbfaaDoorFinPathUp17
import Derived.Test.YtpoekljclapbfaaDoorFinPathUp18
import Derived.Test.YtpoekljclapbfaaDoorFinPathUp19
import Derived.Test.YtpoekljclapbfaaDoorFinPathUp20
import Derived.Test.YtpoekljclapbfaaDoorFinPathUp21
import Derived.Test.YtpoekljclapbfaaDoorFinPathUp22
import Derived.Test.YtpoekljclapbfaaDoorFinPathUp23
import Derived.Test.YtpoekljclapbfaaDoorFinPathUp24
import Derived.Test.YtpoekljclapbfaaDoorFinPathUp25
import Derived.Test.YtpoekljclapbfaaDoorFinPathUp26
import Derived.Test.YtpoekljclapbfaaDoorFinPathUp27
import Derived.Test.YtpoekljclapbfaaDoorFinPathUp28
import Derived.Test.YtpoekljclapbfaaDoorFinPathUp29
namespace Go.Proofs.YtpoekljclapbfaaDoor.Fin
open Go.Proofs.YtpoekljclapbfaaDoor.Fast Go.RowKit
set_option linter.unusedVariables false

theorem pathUp_all (r0 : Nat) (r1 : Nat) (r2 : Nat) (h0 : r0 < 12) (h1 : r1 < 15) (h2 : r2 < 3) : pathUpGo r0 r1 r2 = true := by
  match r0, h0 with
  | 0, _ =>
    match r1, h1 with
    | 0, _ =>
      match r2, h2 with
      | 0, _ =>
        exact pathUp_0_0_0
      | 1, _ =>
        exact pathUp_0_0_1
      | 2, _ =>
        exact pathUp_0_0_2
      | n + 3, h => exact absurd h (by omega)
    | 1, _ =>
      match r2, h2 with
      | 0, _ =>
        exact pathUp_0_1_0
      | 1, _ =>
        exact pathUp_0_1_1
      | 2, _ =>
        exact pathUp_0_1_2
      | n + 3, h => exact absurd h (by omega)
    | 2, _ =>
      match r2, h2 with
      | 0, _ =>
        exact pathUp_0_2_0
      | 1, _ =>
        exact pathUp_0_2_1
      | 2, _ =>
        exact pathUp_0_2_2
      | n + 3, h => exact absurd h (by omega)
    | 3, _ =>
      match r2, h2 with
      | 0, _ =>
        exact pathUp_0_3_0
      | 1, _ =>
        exact pathUp_0_3_1
      | 2, _ =>
        exact pathUp_0_3_2
      | n + 3, h => exact absurd h (by omega)
    | 4, _ =>
      match r2, h2 with
      | 0, _ =>
        exact pathUp_0_4_0
      | 1, _ =>
        exact pathUp_0_4_1
      | 2, _ =>
        exact pathUp_0_4_2
      | n + 3, h => exact absurd h (by omega)
    | 5, _ =>
      match r2, h2 with
      | 0, _ =>
        exact pathUp_0_5_0
      | 1, _ =>
        exact pathUp_0_5_1
      | 2, _ =>
        exact pathUp_0_5_2
      | n + 3, h => exact absurd h (by omega)
    | 6, _ =>
      match r2, h2 with
      | 0, _ =>
        exact pathUp_0_6_0
      | 1, _ =>
        exact pathUp_0_6_1
      | 2, _ =>
        exact pathUp_0_6_2
      | n + 3, h => exact absurd h (by omega)
    | 7, _ =>
      match r2, h2 with
      | 0, _ =>
        exact pathUp_0_7_0
      | 1, _ =>
        exact pathUp_0_7_1
      | 2, _ =>
        exact pathUp_0_7_2
      | n + 3, h => exact absurd h (by omega)
    | 8, _ =>
      match r2, h2 with
      | 0, _ =>
        exact pathUp_0_8_0
      | 1, _ =>
        exact pathUp_0_8_1
      | 2, _ =>
        exact pathUp_0_8_2
      | n + 3, h => exact absurd h (by omega)
    | 9, _ =>
      match r2, h2 with
      | 0, _ =>
        exact pathUp_0_9_0
      | 1, _ =>
        exact pathUp_0_9_1
      | 2, _ =>
        exact pathUp_0_9_2
      | n + 3, h => exact absurd h (by omega)
    | 10, _ =>
      match r2, h2 with
      | 0, _ =>
        exact pathUp_0_10_0
      | 1, _ =>
        exact pathUp_0_10_1
      | 2, _ =>
        exact pathUp_0_10_2
      | n + 3, h => exact absurd h (by omega)
    | 11, _ =>
      match r2, h2 with
      | 0, _ =>
        exact pathUp_0_11_0
      | 1, _ =>
        exact pathUp_0_11_1
      | 2, _ =>
        exact pathUp_0_11_2
      | n + 3, h => exact absurd h (by omega)
    | 12, _ =>
      match r2, h2 with
      | 0, _ =>
        exact pathUp_0_12_0
      | 1, _ =>
        exact pathUp_0_12_1
      | 2, _ =>
        exact pathUp_0_12_2
      | n + 3, h => exact absurd h (by omega)
    | 13, _ =>
      match r2, h2 with
      | 0, _ =>
        exact pathUp_0_13_0
      | 1, _ =>
        exact pathUp_0_13_1
      | 2, _ =>
        exact pathUp_0_13_2
      | n + 3, h => exact absurd h (by omega)
    | 14, _ =>
      match r2, h2 with
      | 0, _ =>
        exact pathUp_0_14_0
      | 1, _ =>
        exact pathUp_0_14_1
      | 2, _ =>
        exact pathUp_0_14_2
      | n + 3, h => exact absurd h (by omega)
    | n + 15, h => exact absurd h (by omega)
  | 1, _ =>
    match r1, h1 with
    | 0, _ =>
      match r2, h2 with
      | 0, _ =>
        exact pathUp_1_0_0
      | 1, _ =>
        exact pathUp_1_0_1
      | 2, _ =>
        exact pathUp_1_0_2
      | n + 3, h => exact absurd h (by omega)
    | 1, _ =>
      match r2, h2 with
      | 0, _ =>
        exact pathUp_1_1_0
      | 1, _ =>
        exact pathUp_1_1_1
      | 2, _ =>
        exact pathUp_1_1_2
      | n + 3, h => exact absurd h (by omega)
    | 2, _ =>
      match r2, h2 with
      | 0, _ =>
        exact pathUp_1_2_0
      | 1, _ =>
        exact pathUp_1_2_1
      | 2, _ =>
        exact pathUp_1_2_2
      | n + 3, h => exact absurd h (by omega)
    | 3, _ =>
      match r2, h2 with
      | 0, _ =>
        exact pathUp_1_3_0
      | 1, _ =>
        exact pathUp_1_3_1
      | 2, _ =>
        exact pathUp_1_3_2
      | n + 3, h => exact absurd h (by omega)
    | 4, _ =>
      match r2, h2 with
      | 0, _ =>
        exact pathUp_1_4_0
      | 1, _ =>
        exact pathUp_1_4_1
      | 2, _ =>
        exact pathUp_1_4_2
      | n + 3, h => exact absurd h (by omega)
    | 5, _ =>
      match r2, h2 with
      | 0, _ =>
        exact pathUp_1_5_0
      | 1, _ =>
        exact pathUp_1_5_1
      | 2, _ =>
        exact pathUp_1_5_2
      | n + 3, h => exact absurd h (by omega)
    | 6, _ =>
      match r2, h2 with
      | 0, _ =>
        exact pathUp_1_6_0
      | 1, _ =>
        exact pathUp_1_6_1
      | 2, _ =>
        exact pathUp_1_6_2
      | n + 3, h => exact absurd h (by omega)
    | 7, _ =>
      match r2, h2 with
      | 0, _ =>
        exact pathUp_1_7_0
      | 1, _ =>
        exact pathUp_1_7_1
      | 2, _ =>
        exact pathUp_1_7_2
      | n + 3, h => exact absurd h (by omega)
    | 8, _ =>
      match r2, h2 with
      | 0, _ =>
        exact pathUp_1_8_0
      | 1, _ =>
        exact pathUp_1_8_1
      | 2, _ =>
        exact pathUp_1_8_2
      | n + 3, h => exact absurd h (by omega)
    | 9, _ =>
      match r2, h2 with
      | 0, _ =>
        exact pathUp_1_9_0
      | 1, _ =>
        exact pathUp_1_9_1
      | 2, _ =>
        exact pathUp_1_9_2
      | n + 3, h => exact absurd h (by omega)
    | 10, _ =>
      match r2, h2 with
      | 0, _ =>
        exact pathUp_1_10_0
      | 1, _ =>
        exact pathUp_1_10_1
      | 2, _ =>
        exact pathUp_1_10_2
      | n + 3, h => exact absurd h (by omega)
    | 11, _ =>
      match r2, h2 with
      | 0, _ =>
        exact pathUp_1_11_0
      | 1, _ =>
        exact pathUp_1_11_1
      | 2, _ =>
        exact pathUp_1_11_2
      | n + 3, h => exact absurd h (by omega)
    | 12, _ =>
      match r2, h2 with
      | 0, _ =>
        exact pathUp_1_12_0
      | 1, _ =>
        exact pathUp_1_12_1
      | 2, _ =>
        exact pathUp_1_12_2
      | n + 3, h => exact absurd h (by omega)
    | 13, _ =>
      match r2, h2 with
      | 0, _ =>
        exact pathUp_1_13_0
      | 1, _ =>
        exact pathUp_1_13_1
      | 2, _ =>
        exact pathUp_1_13_2
      | n + 3, h => exact absurd h (by omega)
    | 14, _ =>
      match r2, h2 with
      | 0, _ =>
        exact pathUp_1_14_0
      | 1, _ =>
        exact pathUp_1_14_1
      | 2, _ =>
        exact pathUp_1_14_2
      | n + 3, h => exact absurd h (by omega)
    | n + 15, h => exact absurd h (by omega)
  | 2, _ =>
    match r1, h1 with
    | 0, _ =>
      match r2, h2 with
      | 0, _ =>
        exact pathUp_2_0_0
      | 1, _ =>
        exact pathUp_2_0_1
      | 2, _ =>
        exact pathUp_2_0_2
      | n + 3, h => exact absurd h (by omega)
    | 1, _ =>
      match r2, h2 with
      | 0, _ =>
        exact pathUp_2_1_0
      | 1, _ =>
        exact pathUp_2_1_1
      | 2, _ =>
        exact pathUp_2_1_2
      | n + 3, h => exact absurd h (by omega)
    | 2, _ =>
      match r2, h2 with
      | 0, _ =>
        exact pathUp_2_2_0
      | 1, _ =>
        exact pathUp_2_2_1
      | 2, _ =>
        exact pathUp_2_2_2
      | n + 3, h => exact absurd h (by omega)
    | 3, _ =>
      match r2, h2 with
      | 0, _ =>
        exact pathUp_2_3_0
      | 1, _ =>
        exact pathUp_2_3_1
      | 2, _ =>
        exact pathUp_2_3_2
      | n + 3, h => exact absurd h (by omega)
    | 4, _ =>
      match r2, h2 with
      | 0, _ =>
        exact pathUp_2_4_0
      | 1, _ =>
        exact pathUp_2_4_1
      | 2, _ =>
        exact pathUp_2_4_2
      | n + 3, h => exact absurd h (by omega)
    | 5, _ =>
      match r2, h2 with
      | 0, _ =>
        exact pathUp_2_5_0
      | 1, _ =>
        exact pathUp_2_5_1
      | 2, _ =>
        exact pathUp_2_5_2
      | n + 3, h => exact absurd h (by omega)
    | 6, _ =>
      match r2, h2 with
      | 0, _ =>
        exact pathUp_2_6_0
      | 1, _ =>
        exact pathUp_2_6_1
      | 2, _ =>
        exact pathUp_2_6_2
      | n + 3, h => exact absurd h (by omega)
    | 7, _ =>
      match r2, h2 with
      | 0, _ =>
        exact pathUp_2_7_0
      | 1, _ =>
        exact pathUp_2_7_1
      | 2, _ =>
        exact pathUp_2_7_2
      | n + 3, h => exact absurd h (by omega)
    | 8, _ =>
      match r2, h2 with
      | 0, _ =>
        exact pathUp_2_8_0
      | 1, _ =>
        exact pathUp_2_8_1
      | 2, _ =>
        exact pathUp_2_8_2
      | n + 3, h => exact absurd h (by omega)
    | 9, _ =>
      match r2, h2 with
      | 0, _ =>
        exact pathUp_2_9_0
      | 1, _ =>
        exact pathUp_2_9_1
      | 2, _ =>
        exact pathUp_2_9_2
      | n + 3, h => exact absurd h (by omega)
    | 10, _ =>
      match r2, h2 with
      | 0, _ =>
        exact pathUp_2_10_0
      | 1, _ =>
        exact pathUp_2_10_1
      | 2, _ =>
        exact pathUp_2_10_2
      | n + 3, h => exact absurd h (by omega)
    | 11, _ =>
      match r2, h2 with
      | 0, _ =>
        exact pathUp_2_11_0
      | 1, _ =>
        exact pathUp_2_11_1
      | 2, _ =>
        exact pathUp_2_11_2
      | n + 3, h => exact absurd h (by omega)
    | 12, _ =>
      match r2, h2 with
      | 0, _ =>
        exact pathUp_2_12_0
      | 1, _ =>
        exact pathUp_2_12_1
      | 2, _ =>
        exact pathUp_2_12_2
      | n + 3, h => exact absurd h (by omega)
    | 13, _ =>
      match r2, h2 with
      | 0, _ =>
        exact pathUp_2_13_0
      | 1, _ =>
        exact pathUp_2_13_1
      | 2, _ =>
        exact pathUp_2_13_2
      | n + 3, h => exact absurd h (by omega)
    | 14, _ =>
      match r2, h2 with
      | 0, _ =>
        exact pathUp_2_14_0
      | 1, _ =>
        exact pathUp_2_14_1
      | 2, _ =>
        exact pathUp_2_14_2
      | n + 3, h => exact absurd h (by omega)
    | n + 15, h => exact absurd h (by omega)
  | 3, _ =>
    match r1, h1 with
    | 0, _ =>
      match r2, h2 with
      | 0, _ =>
        exact pathUp_3_0_0
      | 1, _ =>
        exact pathUp_3_0_1
      | 2, _ =>
        exact pathUp_3_0_2
      | n + 3, h => exact absurd h (by omega)
    | 1, _ =>
      match r2, h2 with
      | 0, _ =>
        exact pathUp_3_1_0
      | 1, _ =>
        exact pathUp_3_1_1
      | 2, _ =>
        exact pathUp_3_1_2
      | n + 3, h => exact absurd h (by omega)
    | 2, _ =>
      match r2, h2 with
      | 0, _ =>
        exact pathUp_3_2_0
      | 1, _ =>
        exact pathUp_3_2_1
      | 2, _ =>
        exact pathUp_3_2_2
      | n + 3, h => exact absurd h (by omega)
    | 3, _ =>
      match r2, h2 with
      | 0, _ =>
        exact pathUp_3_3_0
      | 1, _ =>
        exact pathUp_3_3_1
      | 2, _ =>
        exact pathUp_3_3_2
      | n + 3, h => exact absurd h (by omega)
    | 4, _ =>
      match r2, h2 with
      | 0, _ =>
        exact pathUp_3_4_0
      | 1, _ =>
        exact pathUp_3_4_1
      | 2, _ =>
        exact pathUp_3_4_2
      | n + 3, h => exact absurd h (by omega)
    | 5, _ =>
      match r2, h2 with
      | 0, _ =>
        exact pathUp_3_5_0
      | 1, _ =>
        exact pathUp_3_5_1
      | 2, _ =>
        exact pathUp_3_5_2
      | n + 3, h => exact absurd h (by omega)
    | 6, _ =>
      match r2, h2 with
      | 0, _ =>
        exact pathUp_3_6_0
      | 1, _ =>
        exact pathUp_3_6_1
      | 2, _ =>
        exact pathUp_3_6_2
      | n + 3, h => exact absurd h (by omega)
    | 7, _ =>
      match r2, h2 with
      | 0, _ =>
        exact pathUp_3_7_0
      | 1, _ =>
        exact pathUp_3_7_1
      | 2, _ =>
        exact pathUp_3_7_2
      | n + 3, h => exact absurd h (by omega)
    | 8, _ =>
      match r2, h2 with
      | 0, _ =>
        exact pathUp_3_8_0
      | 1, _ =>
        exact pathUp_3_8_1
      | 2, _ =>
        exact pathUp_3_8_2
      | n + 3, h => exact absurd h (by omega)
    | 9, _ =>
      match r2, h2 with
      | 0, _ =>
        exact pathUp_3_9_0
      | 1, _ =>
        exact pathUp_3_9_1
      | 2, _ =>
        exact pathUp_3_9_2
      | n + 3, h => exact absurd h (by omega)
    | 10, _ =>
      match r2, h2 with
      | 0, _ =>
        exact pathUp_3_10_0
      | 1, _ =>
        exact pathUp_3_10_1
      | 2, _ =>
        exact pathUp_3_10_2
      | n + 3, h => exact absurd h (by omega)
    | 11, _ =>
      match r2, h2 with
      | 0, _ =>
        exact pathUp_3_11_0
      | 1, _ =>
        exact pathUp_3_11_1
      | 2, _ =>
        exact pathUp_3_11_2
      | n + 3, h => exact absurd h (by omega)
    | 12, _ =>
      match r2, h2 with
      | 0, _ =>
        exact pathUp_3_12_0
      | 1, _ =>
        exact pathUp_3_12_1
      | 2, _ =>
        exact pathUp_3_12_2
      | n + 3, h => exact absurd h (by omega)
    | 13, _ =>
      match r2, h2 with
      | 0, _ =>
        exact pathUp_3_13_0
      | 1, _ =>
        exact pathUp_3_13_1
      | 2, _ =>
        exact pathUp_3_13_2
      | n + 3, h => exact absurd h (by omega)
    | 14, _ =>
      match r2, h2 with
      | 0, _ =>
        exact pathUp_3_14_0
      | 1, _ =>
        exact pathUp_3_14_1
      | 2, _ =>
        exact pathUp_3_14_2
      | n + 3, h => exact absurd h (by omega)
    | n + 15, h => exact absurd h (by omega)
  | 4, _ =>
    match r1, h1 with
    | 0, _ =>
      match r2, h2 with
      | 0, _ =>
        exact pathUp_4_0_0
      | 1, _ =>
        exact pathUp_4_0_1
      | 2, _ =>
        exact pathUp_4_0_2
      | n + 3, h => exact absurd h (by omega)
    | 1, _ =>
      match r2, h2 with
      | 0, _ =>
        exact pathUp_4_1_0
      | 1, _ =>
        exact pathUp_4_1_1
      | 2, _ =>
        exact pathUp_4_1_2
      | n + 3, h => exact absurd h (by omega)
    | 2, _ =>
      match r2, h2 with
      | 0, _ =>
        exact pathUp_4_2_0
      | 1, _ =>
        exact pathUp_4_2_1
      | 2, _ =>
        exact pathUp_4_2_2
      | n + 3, h => exact absurd h (by omega)
    | 3, _ =>
      match r2, h2 with
      | 0, _ =>
        exact pathUp_4_3_0
      | 1, _ =>
        exact pathUp_4_3_1
      | 2, _ =>
        exact pathUp_4_3_2
      | n + 3, h => exact absurd h (by omega)
    | 4, _ =>
      match r2, h2 with
      | 0, _ =>
        exact pathUp_4_4_0
      | 1, _ =>
        exact pathUp_4_4_1
      | 2, _ =>
        exact pathUp_4_4_2
      | n + 3, h => exact absurd h (by omega)
    | 5, _ =>
      match r2, h2 with
      | 0, _ =>
        exact pathUp_4_5_0
      | 1, _ =>
        exact pathUp_4_5_1
      | 2, _ =>
        exact pathUp_4_5_2
      | n + 3, h => exact absurd h (by omega)
    | 6, _ =>
      match r2, h2 with
      | 0, _ =>
        exact pathUp_4_6_0
      | 1, _ =>
        exact pathUp_4_6_1
      | 2, _ =>
        exact pathUp_4_6_2
      | n + 3, h => exact absurd h (by omega)
    | 7, _ =>
      match r2, h2 with
      | 0, _ =>
        exact pathUp_4_7_0
      | 1, _ =>
        exact pathUp_4_7_1
      | 2, _ =>
        exact pathUp_4_7_2
      | n + 3, h => exact absurd h (by omega)
    | 8, _ =>
      match r2, h2 with
      | 0, _ =>
        exact pathUp_4_8_0
      | 1, _ =>
        exact pathUp_4_8_1
      | 2, _ =>
        exact pathUp_4_8_2
      | n + 3, h => exact absurd h (by omega)
    | 9, _ =>
      match r2, h2 with
      | 0, _ =>
        exact pathUp_4_9_0
      | 1, _ =>
        exact pathUp_4_9_1
      | 2, _ =>
        exact pathUp_4_9_2
      | n + 3, h => exact absurd h (by omega)
    | 10, _ =>
      match r2, h2 with
      | 0, _ =>
        exact pathUp_4_10_0
      | 1, _ =>
        exact pathUp_4_10_1
      | 2, _ =>
        exact pathUp_4_10_2
      | n + 3, h => exact absurd h (by omega)
    | 11, _ =>
      match r2, h2 with
      | 0, _ =>
        exact pathUp_4_11_0
      | 1, _ =>
        exact pathUp_4_11_1
      | 2, _ =>
        exact pathUp_4_11_2
      | n + 3, h => exact absurd h (by omega)
    | 12, _ =>
      match r2, h2 with
      | 0, _ =>
        exact pathUp_4_12_0
      | 1, _ =>
        exact pathUp_4_12_1
      | 2, _ =>
        exact pathUp_4_12_2
      | n + 3, h => exact absurd h (by omega)
    | 13, _ =>
      match r2, h2 with
      | 0, _ =>
        exact pathUp_4_13_0
      | 1, _ =>
        exact pathUp_4_13_1
      | 2, _ =>
        exact pathUp_4_13_2
      | n + 3, h => exact absurd h (by omega)
    | 14, _ =>
      match r2, h2 with
      | 0, _ =>
        exact pathUp_4_14_0
      | 1, _ =>
        exact pathUp_4_14_1
      | 2, _ =>
        exact pathUp_4_14_2
      | n + 3, h => exact absurd h (by omega)
    | n + 15, h => exact absurd h (by omega)
  | 5, _ =>
    match r1, h1 with
    | 0, _ =>
      match r2, h2 with
      | 0, _ =>
        exact pathUp_5_0_0
      | 1, _ =>
        exact pathUp_5_0_1
      | 2, _ =>
        exact pathUp_5_0_2
      | n + 3, h => exact absurd h (by omega)
    | 1, _ =>
      match r2, h2 with
      | 0, _ =>
        exact pathUp_5_1_0
      | 1, _ =>
        exact pathUp_5_1_1
      | 2, _ =>
        exact pathUp_5_1_2
      | n + 3, h => exact absurd h (by omega)
    | 2, _ =>
      match r2, h2 with
      | 0, _ =>
        exact pathUp_5_2_0
      | 1, _ =>
        exact pathUp_5_2_1
      | 2, _ =>
        exact pathUp_5_2_2
      | n + 3, h => exact absurd h (by omega)
    | 3, _ =>
      match r2, h2 with
      | 0, _ =>
        exact pathUp_5_3_0
      | 1, _ =>
        exact pathUp_5_3_1
      | 2, _ =>
        exact pathUp_5_3_2
      | n + 3, h => exact absurd h (by omega)
    | 4, _ =>
      match r2, h2 with
      | 0, _ =>
        exact pathUp_5_4_0
      | 1, _ =>
        exact pathUp_5_4_1
      | 2, _ =>
        exact pathUp_5_4_2
      | n + 3, h => exact absurd h (by omega)
    | 5, _ =>
      match r2, h2 with
      | 0, _ =>
        exact pathUp_5_5_0
      | 1, _ =>
        exact pathUp_5_5_1
      | 2, _ =>
        exact pathUp_5_5_2
      | n + 3, h => exact absurd h (by omega)
    | 6, _ =>
      match r2, h2 with
      | 0, _ =>
        exact pathUp_5_6_0
      | 1, _ =>
        exact pathUp_5_6_1
      | 2, _ =>
        exact pathUp_5_6_2
      | n + 3, h => exact absurd h (by omega)
    | 7, _ =>
      match r2, h2 with
      | 0, _ =>
        exact pathUp_5_7_0
      | 1, _ =>
        exact pathUp_5_7_1
      | 2, _ =>
        exact pathUp_5_7_2
      | n + 3, h => exact absurd h (by omega)
    | 8, _ =>
      match r2, h2 with
      | 0, _ =>
        exact pathUp_5_8_0
      | 1, _ =>
        exact pathUp_5_8_1
      | 2, _ =>
        exact pathUp_5_8_2
      | n + 3, h => exact absurd h (by omega)
    | 9, _ =>
      match r2, h2 with
      | 0, _ =>
        exact pathUp_5_9_0
      | 1, _ =>
        exact pathUp_5_9_1
      | 2, _ =>
        exact pathUp_5_9_2
      | n + 3, h => exact absurd h (by omega)
    | 10, _ =>
      match r2, h2 with
      | 0, _ =>
        exact pathUp_5_10_0
      | 1, _ =>
        exact pathUp_5_10_1
      | 2, _ =>
        exact pathUp_5_10_2
      | n + 3, h => exact absurd h (by omega)
    | 11, _ =>
      match r2, h2 with
      | 0, _ =>
        exact pathUp_5_11_0
      | 1, _ =>
        exact pathUp_5_11_1
      | 2, _ =>
        exact pathUp_5_11_2
      | n + 3, h => exact absurd h (by omega)
    | 12, _ =>
      match r2, h2 with
      | 0, _ =>
        exact pathUp_5_12_0
      | 1, _ =>
        exact pathUp_5_12_1
      | 2, _ =>
        exact pathUp_5_12_2
      | n + 3, h => exact absurd h (by omega)
    | 13, _ =>
      match r2, h2 with
      | 0, _ =>
        exact pathUp_5_13_0
      | 1, _ =>
        exact pathUp_5_13_1
      | 2, _ =>
        exact pathUp_5_13_2
      | n + 3, h => exact absurd h (by omega)
    | 14, _ =>
      match r2, h2 with
      | 0, _ =>
        exact pathUp_5_14_0
      | 1, _ =>
        exact pathUp_5_14_1
      | 2, _ =>
        exact pathUp_5_14_2
      | n + 3, h => exact absurd h (by omega)
    | n + 15, h => exact absurd h (by omega)
  | 6, _ =>
    match r1, h1 with
    | 0, _ =>
      match r2, h2 with
      | 0, _ =>
        exact pathUp_6_0_0
      | 1, _ =>
        exact pathUp_6_0_1
      | 2, _ =>
        exact pathUp_6_0_2
      | n + 3, h => exact absurd h (by omega)
    | 1, _ =>
      match r2, h2 with
      | 0, _ =>
        exact pathUp_6_1_0
      | 1, _ =>
        exact pathUp_6_1_1
      | 2, _ =>
        exact pathUp_6_1_2
      | n + 3, h => exact absurd h (by omega)
    | 2, _ =>
      match r2, h2 with
      | 0, _ =>
        exact pathUp_6_2_0
      | 1, _ =>
        exact pathUp_6_2_1
      | 2, _ =>
        exact pathUp_6_2_2
      | n + 3, h => exact absurd h (by omega)
    | 3, _ =>
      match r2, h2 with
      | 0, _ =>
        exact pathUp_6_3_0
      | 1, _ =>
        exact pathUp_6_3_1
      | 2, _ =>
        exact pathUp_6_3_2
      | n + 3, h => exact absurd h (by omega)
    | 4, _ =>
      match r2, h2 with
      | 0, _ =>
        exact pathUp_6_4_0
      | 1, _ =>
        exact pathUp_6_4_1
      | 2, _ =>
        exact pathUp_6_4_2
      | n + 3, h => exact absurd h (by omega)
    | 5, _ =>
      match r2, h2 with
      | 0, _ =>
        exact pathUp_6_5_0
      | 1, _ =>
        exact pathUp_6_5_1
      | 2, _ =>
        exact pathUp_6_5_2
      | n + 3, h => exact absurd h (by omega)
    | 6, _ =>
      match r2, h2 with
      | 0, _ =>
        exact pathUp_6_6_0
      | 1, _ =>
        exact pathUp_6_6_1
      | 2, _ =>
        exact pathUp_6_6_2
      | n + 3, h => exact absurd h (by omega)
    | 7, _ =>
      match r2, h2 with
      | 0, _ =>
        exact pathUp_6_7_0
      | 1, _ =>
        exact pathUp_6_7_1
      | 2, _ =>
        exact pathUp_6_7_2
      | n + 3, h => exact absurd h (by omega)
    | 8, _ =>
      match r2, h2 with
      | 0, _ =>
        exact pathUp_6_8_0
      | 1, _ =>
        exact pathUp_6_8_1
      | 2, _ =>
        exact pathUp_6_8_2
      | n + 3, h => exact absurd h (by omega)
    | 9, _ =>
      match r2, h2 with
      | 0, _ =>
        exact pathUp_6_9_0
      | 1, _ =>
        exact pathUp_6_9_1
      | 2, _ =>
        exact pathUp_6_9_2
      | n + 3, h => exact absurd h (by omega)
    | 10, _ =>
      match r2, h2 with
      | 0, _ =>
        exact pathUp_6_10_0
      | 1, _ =>
        exact pathUp_6_10_1
      | 2, _ =>
        exact pathUp_6_10_2
      | n + 3, h => exact absurd h (by omega)
    | 11, _ =>
      match r2, h2 with
      | 0, _ =>
        exact pathUp_6_11_0
      | 1, _ =>
        exact pathUp_6_11_1
      | 2, _ =>
        exact pathUp_6_11_2
      | n + 3, h => exact absurd h (by omega)
    | 12, _ =>
      match r2, h2 with
      | 0, _ =>
        exact pathUp_6_12_0
      | 1, _ =>
        exact pathUp_6_12_1
      | 2, _ =>
        exact pathUp_6_12_2
      | n + 3, h => exact absurd h (by omega)
    | 13, _ =>
      match r2, h2 with
      | 0, _ =>
        exact pathUp_6_13_0
      | 1, _ =>
        exact pathUp_6_13_1
      | 2, _ =>
        exact pathUp_6_13_2
      | n + 3, h => exact absurd h (by omega)
    | 14, _ =>
      match r2, h2 with
      | 0, _ =>
        exact pathUp_6_14_0
      | 1, _ =>
        exact pathUp_6_14_1
      | 2, _ =>
        exact pathUp_6_14_2
      | n + 3, h => exact absurd h (by omega)
    | n + 15, h => exact absurd h (by omega)
  | 7, _ =>
    match r1, h1 with
    | 0, _ =>
      match r2, h2 with
      | 0, _ =>
        exact pathUp_7_0_0
      | 1, _ =>
        exact pathUp_7_0_1
      | 2, _ =>
        exact pathUp_7_0_2
      | n + 3, h => exact absurd h (by omega)
    | 1, _ =>
      match r2, h2 with
      | 0, _ =>
        exact pathUp_7_1_0
      | 1, _ =>
        exact pathUp_7_1_1
      | 2, _ =>
        exact pathUp_7_1_2
      | n + 3, h => exact absurd h (by omega)
    | 2, _ =>
      match r2, h2 with
      | 0, _ =>
        exact pathUp_7_2_0
      | 1, _ =>
        exact pathUp_7_2_1
      | 2, _ =>
        exact pathUp_7_2_2
      | n + 3, h => exact absurd h (by omega)
    | 3, _ =>
      match r2, h2 with
      | 0, _ =>
        exact pathUp_7_3_0
      | 1, _ =>
        exact pathUp_7_3_1
      | 2, _ =>
        exact pathUp_7_3_2
      | n + 3, h => exact absurd h (by omega)
    | 4, _ =>
      match r2, h2 with
      | 0, _ =>
        exact pathUp_7_4_0
      | 1, _ =>
        exact pathUp_7_4_1
      | 2, _ =>
        exact pathUp_7_4_2
      | n + 3, h => exact absurd h (by omega)
    | 5, _ =>
      match r2, h2 with
      | 0, _ =>
        exact pathUp_7_5_0
      | 1, _ =>
        exact pathUp_7_5_1
      | 2, _ =>
        exact pathUp_7_5_2
      | n + 3, h => exact absurd h (by omega)
    | 6, _ =>
      match r2, h2 with
      | 0, _ =>
        exact pathUp_7_6_0
      | 1, _ =>
        exact pathUp_7_6_1
      | 2, _ =>
        exact pathUp_7_6_2
      | n + 3, h => exact absurd h (by omega)
    | 7, _ =>
      match r2, h2 with
      | 0, _ =>
        exact pathUp_7_7_0
      | 1, _ =>
        exact pathUp_7_7_1
      | 2, _ =>
        exact pathUp_7_7_2
      | n + 3, h => exact absurd h (by omega)
    | 8, _ =>
      match r2, h2 with
      | 0, _ =>
        exact pathUp_7_8_0
      | 1, _ =>
        exact pathUp_7_8_1
      | 2, _ =>
        exact pathUp_7_8_2
      | n + 3, h => exact absurd h (by omega)
    | 9, _ =>
      match r2, h2 with
      | 0, _ =>
        exact pathUp_7_9_0
      | 1, _ =>
        exact pathUp_7_9_1
      | 2, _ =>
        exact pathUp_7_9_2
      | n + 3, h => exact absurd h (by omega)
    | 10, _ =>
      match r2, h2 with
      | 0, _ =>
        exact pathUp_7_10_0
      | 1, _ =>
        exact pathUp_7_10_1
      | 2, _ =>
        exact pathUp_7_10_2
      | n + 3, h => exact absurd h (by omega)
    | 11, _ =>
      match r2, h2 with
      | 0, _ =>
        exact pathUp_7_11_0
      | 1, _ =>
        exact pathUp_7_11_1
      | 2, _ =>
        exact pathUp_7_11_2
      | n + 3, h => exact absurd h (by omega)
    | 12, _ =>
      match r2, h2 with
      | 0, _ =>
        exact pathUp_7_12_0
      | 1, _ =>
        exact pathUp_7_12_1
      | 2, _ =>
        exact pathUp_7_12_2
      | n + 3, h => exact absurd h (by omega)
    | 13, _ =>
      match r2, h2 with
      | 0, _ =>
        exact pathUp_7_13_0
      | 1, _ =>
        exact pathUp_7_13_1
      | 2, _ =>
        exact pathUp_7_13_2
      | n + 3, h => exact absurd h (by omega)
    | 14, _ =>
      match r2, h2 with
      | 0, _ =>
        exact pathUp_7_14_0
      | 1, _ =>
        exact pathUp_7_14_1
      | 2, _ =>
        exact pathUp_7_14_2
      | n + 3, h => exact absurd h (by omega)
    | n + 15, h => exact absurd h (by omega)
  | 8, _ =>
    match r1, h1 with
    | 0, _ =>
      match r2, h2 with
      | 0, _ =>
        exact pathUp_8_0_0
      | 1, _ =>
        exact pathUp_8_0_1
      | 2, _ =>
        exact pathUp_8_0_2
      | n + 3, h => exact absurd h (by omega)
    | 1, _ =>
      match r2, h2 with
      | 0, _ =>
        exact pathUp_8_1_0
      | 1, _ =>
        exact pathUp_8_1_1
      | 2, _ =>
        exact pathUp_8_1_2
      | n + 3, h => exact absurd h (by omega)
    | 2, _ =>
      match r2, h2 with
      | 0, _ =>
        exact pathUp_8_2_0
      | 1, _ =>
        exact pathUp_8_2_1
      | 2, _ =>
        exact pathUp_8_2_2
      | n + 3, h => exact absurd h (by omega)
    | 3, _ =>
      match r2, h2 with
      | 0, _ =>
        exact pathUp_8_3_0
      | 1, _ =>
        exact pathUp_8_3_1
      | 2, _ =>
        exact pathUp_8_3_2
      | n + 3, h => exact absurd h (by omega)
    | 4, _ =>
      match r2, h2 with
      | 0, _ =>
        exact pathUp_8_4_0
      | 1, _ =>
        exact pathUp_8_4_1
      | 2, _ =>
        exact pathUp_8_4_2
      | n + 3, h => exact absurd h (by omega)
    | 5, _ =>
      match r2, h2 with
      | 0, _ =>
        exact pathUp_8_5_0
      | 1, _ =>
        exact pathUp_8_5_1
      | 2, _ =>
        exact pathUp_8_5_2
      | n + 3, h => exact absurd h (by omega)
    | 6, _ =>
      match r2, h2 with
      | 0, _ =>
        exact pathUp_8_6_0
      | 1, _ =>
        exact pathUp_8_6_1
      | 2, _ =>
        exact pathUp_8_6_2
      | n + 3, h => exact absurd h (by omega)
    | 7, _ =>
      match r2, h2 with
      | 0, _ =>
        exact pathUp_8_7_0
      | 1, _ =>
        exact pathUp_8_7_1
      | 2, _ =>
        exact pathUp_8_7_2
      | n + 3, h => exact absurd h (by omega)
    | 8, _ =>
      match r2, h2 with
      | 0, _ =>
        exact pathUp_8_8_0
      | 1, _ =>
        exact pathUp_8_8_1
      | 2, _ =>
        exact pathUp_8_8_2
      | n + 3, h => exact absurd h (by omega)
    | 9, _ =>
      match r2, h2 with
      | 0, _ =>
        exact pathUp_8_9_0
      | 1, _ =>
        exact pathUp_8_9_1
      | 2, _ =>
        exact pathUp_8_9_2
      | n + 3, h => exact absurd h (by omega)
    | 10, _ =>
      match r2, h2 with
      | 0, _ =>
        exact pathUp_8_10_0
      | 1, _ =>
        exact pathUp_8_10_1
      | 2, _ =>
        exact pathUp_8_10_2
      | n + 3, h => exact absurd h (by omega)
    | 11, _ =>
      match r2, h2 with
      | 0, _ =>
        exact pathUp_8_11_0
      | 1, _ =>
        exact pathUp_8_11_1
      | 2, _ =>
        exact pathUp_8_11_2
      | n + 3, h => exact absurd h (by omega)
    | 12, _ =>
      match r2, h2 with
      | 0, _ =>
        exact pathUp_8_12_0
      | 1, _ =>
        exact pathUp_8_12_1
      | 2, _ =>
        exact pathUp_8_12_2
      | n + 3, h => exact absurd h (by omega)
    | 13, _ =>
      match r2, h2 with
      | 0, _ =>
        exact pathUp_8_13_0
      | 1, _ =>
        exact pathUp_8_13_1
      | 2, _ =>
        exact pathUp_8_13_2
      | n + 3, h => exact absurd h (by omega)
    | 14, _ =>
      match r2, h2 with
      | 0, _ =>
        exact pathUp_8_14_0
      | 1, _ =>
        exact pathUp_8_14_1
      | 2, _ =>
        exact pathUp_8_14_2
      | n + 3, h => exact absurd h (by omega)
    | n + 15, h => exact absurd h (by omega)
  | 9, _ =>
    match r1, h1 with
    | 0, _ =>
      match r2, h2 with
      | 0, _ =>
        exact pathUp_9_0_0
      | 1, _ =>
        exact pathUp_9_0_1
      | 2, _ =>
        exact pathUp_9_0_2
      | n + 3, h => exact absurd h (by omega)
    | 1, _ =>
      match r2, h2 with
      | 0, _ =>
        exact pathUp_9_1_0
      | 1, _ =>
        exact pathUp_9_1_1
      | 2, _ =>
        exact pathUp_9_1_2
      | n + 3, h => exact absurd h (by omega)
    | 2, _ =>
      match r2, h2 with
      | 0, _ =>
        exact pathUp_9_2_0
      | 1, _ =>
        exact pathUp_9_2_1
      | 2, _ =>
        exact pathUp_9_2_2
      | n + 3, h => exact absurd h (by omega)
    | 3, _ =>
      match r2, h2 with
      | 0, _ =>
        exact pathUp_9_3_0
      | 1, _ =>
        exact pathUp_9_3_1
      | 2, _ =>
        exact pathUp_9_3_2
      | n + 3, h => exact absurd h (by omega)
    | 4, _ =>
      match r2, h2 with
      | 0, _ =>
        exact pathUp_9_4_0
      | 1, _ =>
        exact pathUp_9_4_1
      | 2, _ =>
        exact pathUp_9_4_2
      | n + 3, h => exact absurd h (by omega)
    | 5, _ =>
      match r2, h2 with
      | 0, _ =>
        exact pathUp_9_5_0
      | 1, _ =>
        exact pathUp_9_5_1
      | 2, _ =>
        exact pathUp_9_5_2
      | n + 3, h => exact absurd h (by omega)
    | 6, _ =>
      match r2, h2 with
      | 0, _ =>
        exact pathUp_9_6_0
      | 1, _ =>
        exact pathUp_9_6_1
      | 2, _ =>
        exact pathUp_9_6_2
      | n + 3, h => exact absurd h (by omega)
    | 7, _ =>
      match r2, h2 with
      | 0, _ =>
        exact pathUp_9_7_0
      | 1, _ =>
        exact pathUp_9_7_1
      | 2, _ =>
        exact pathUp_9_7_2
      | n + 3, h => exact absurd h (by omega)
    | 8, _ =>
      match r2, h2 with
      | 0, _ =>
        exact pathUp_9_8_0
      | 1, _ =>
        exact pathUp_9_8_1
      | 2, _ =>
        exact pathUp_9_8_2
      | n + 3, h => exact absurd h (by omega)
    | 9, _ =>
      match r2, h2 with
      | 0, _ =>
        exact pathUp_9_9_0
      | 1, _ =>
        exact pathUp_9_9_1
      | 2, _ =>
        exact pathUp_9_9_2
      | n + 3, h => exact absurd h (by omega)
    | 10, _ =>
      match r2, h2 with
      | 0, _ =>
        exact pathUp_9_10_0
      | 1, _ =>
        exact pathUp_9_10_1
      | 2, _ =>
        exact pathUp_9_10_2
      | n + 3, h => exact absurd h (by omega)
    | 11, _ =>
      match r2, h2 with
      | 0, _ =>
        exact pathUp_9_11_0
      | 1, _ =>
        exact pathUp_9_11_1
      | 2, _ =>
        exact pathUp_9_11_2
      | n + 3, h => exact absurd h (by omega)
    | 12, _ =>
      match r2, h2 with
      | 0, _ =>
        exact pathUp_9_12_0
      | 1, _ =>
        exact pathUp_9_12_1
      | 2, _ =>
        exact pathUp_9_12_2
      | n + 3, h => exact absurd h (by omega)
    | 13, _ =>
      match r2, h2 with
      | 0, _ =>
        exact pathUp_9_13_0
      | 1, _ =>
        exact pathUp_9_13_1
      | 2, _ =>
        exact pathUp_9_13_2
      | n + 3, h => exact absurd h (by omega)
    | 14, _ =>
      match r2, h2 with
      | 0, _ =>
        exact pathUp_9_14_0
      | 1, _ =>
        exact pathUp_9_14_1
      | 2, _ =>
        exact pathUp_9_14_2
      | n + 3, h => exact absurd h (by omega)
    | n + 15, h => exact absurd h (by omega)
  | 10, _ =>
    match r1, h1 with
    | 0, _ =>
      match r2, h2 with
      | 0, _ =>
        exact pathUp_10_0_0
      | 1, _ =>
        exact pathUp_10_0_1
      | 2, _ =>
        exact pathUp_10_0_2
      | n + 3, h => exact absurd h (by omega)
    | 1, _ =>
      match r2, h2 with
      | 0, _ =>
        exact pathUp_10_1_0
      | 1, _ =>
        exact pathUp_10_1_1
      | 2, _ =>
        exact pathUp_10_1_2
      | n + 3, h => exact absurd h (by omega)
    | 2, _ =>
      match r2, h2 with
      | 0, _ =>
        exact pathUp_10_2_0
      | 1, _ =>
        exact pathUp_10_2_1
      | 2, _ =>
        exact pathUp_10_2_2
      | n + 3, h => exact absurd h (by omega)
    | 3, _ =>
      match r2, h2 with
      | 0, _ =>
        exact pathUp_10_3_0
      | 1, _ =>
        exact pathUp_10_3_1
      | 2, _ =>
        exact pathUp_10_3_2
      | n + 3, h => exact absurd h (by omega)
    | 4, _ =>
      match r2, h2 with
      | 0, _ =>
        exact pathUp_10_4_0
      | 1, _ =>
        exact pathUp_10_4_1
      | 2, _ =>
        exact pathUp_10_4_2
      | n + 3, h => exact absurd h (by omega)
    | 5, _ =>
      match r2, h2 with
      | 0, _ =>
        exact pathUp_10_5_0
      | 1, _ =>
        exact pathUp_10_5_1
      | 2, _ =>
        exact pathUp_10_5_2
      | n + 3, h => exact absurd h (by omega)
    | 6, _ =>
      match r2, h2 with
      | 0, _ =>
        exact pathUp_10_6_0
      | 1, _ =>
        exact pathUp_10_6_1
      | 2, _ =>
        exact pathUp_10_6_2
      | n + 3, h => exact absurd h (by omega)
    | 7, _ =>
      match r2, h2 with
      | 0, _ =>
        exact pathUp_10_7_0
      | 1, _ =>
        exact pathUp_10_7_1
      | 2, _ =>
        exact pathUp_10_7_2
      | n + 3, h => exact absurd h (by omega)
    | 8, _ =>
      match r2, h2 with
      | 0, _ =>
        exact pathUp_10_8_0
      | 1, _ =>
        exact pathUp_10_8_1
      | 2, _ =>
        exact pathUp_10_8_2
      | n + 3, h => exact absurd h (by omega)
    | 9, _ =>
      match r2, h2 with
      | 0, _ =>
        exact pathUp_10_9_0
      | 1, _ =>
        exact pathUp_10_9_1
      | 2, _ =>
        exact pathUp_10_9_2
      | n + 3, h => exact absurd h (by omega)
    | 10, _ =>
      match r2, h2 with
      | 0, _ =>
        exact pathUp_10_10_0
      | 1, _ =>
        exact pathUp_10_10_1
      | 2, _ =>
        exact pathUp_10_10_2
      | n + 3, h => exact absurd h (by omega)
    | 11, _ =>
      match r2, h2 with
      | 0, _ =>
        exact pathUp_10_11_0
      | 1, _ =>
        exact pathUp_10_11_1
      | 2, _ =>
        exact pathUp_10_11_2
      | n + 3, h => exact absurd h (by omega)
    | 12, _ =>
      match r2, h2 with
      | 0, _ =>
        exact pathUp_10_12_0
      | 1, _ =>
        exact pathUp_10_12_1
      | 2, _ =>
        exact pathUp_10_12_2
      | n + 3, h => exact absurd h (by omega)
    | 13, _ =>
      match r2, h2 with
      | 0, _ =>
        exact pathUp_10_13_0
      | 1, _ =>
        exact pathUp_10_13_1
      | 2, _ =>
        exact pathUp_10_13_2
      | n + 3, h => exact absurd h (by omega)
    | 14, _ =>
      match r2, h2 with
      | 0, _ =>
        exact pathUp_10_14_0
      | 1, _ =>
        exact pathUp_10_14_1
      | 2, _ =>
        exact pathUp_10_14_2
      | n + 3, h => exact absurd h (by omega)
    | n + 15, h => exact absurd h (by omega)
  | 11, _ =>
    match r1, h1 with
    | 0, _ =>
      match r2, h2 with
      | 0, _ =>
        exact pathUp_11_0_0
      | 1, _ =>
        exact pathUp_11_0_1
      | 2, _ =>
        exact pathUp_11_0_2
      | n + 3, h => exact absurd h (by omega)
    | 1, _ =>
      match r2, h2 with
      | 0, _ =>
        exact pathUp_11_1_0
      | 1, _ =>
        exact pathUp_11_1_1
      | 2, _ =>
        exact pathUp_11_1_2
      | n + 3, h => exact absurd h (by omega)
    | 2, _ =>
      match r2, h2 with
      | 0, _ =>
        exact pathUp_11_2_0
      | 1, _ =>
        exact pathUp_11_2_1
      | 2, _ =>
        exact pathUp_11_2_2
      | n + 3, h => exact absurd h (by omega)
    | 3, _ =>
      match r2, h2 with
      | 0, _ =>
        exact pathUp_11_3_0
      | 1, _ =>
        exact pathUp_11_3_1
      | 2, _ =>
        exact pathUp_11_3_2
      | n + 3, h => exact absurd h (by omega)
    | 4, _ =>
      match r2, h2 with
      | 0, _ =>
        exact pathUp_11_4_0
      | 1, _ =>
        exact pathUp_11_4_1
      | 2, _ =>
        exact pathUp_11_4_2
      | n + 3, h => exact absurd h (by omega)
    | 5, _ =>
      match r2, h2 with
      | 0, _ =>
        exact pathUp_11_5_0
      | 1, _ =>
        exact pathUp_11_5_1
      | 2, _ =>
        exact pathUp_11_5_2
      | n + 3, h => exact absurd h (by omega)
    | 6, _ =>
      match r2, h2 with
      | 0, _ =>
        exact pathUp_11_6_0
      | 1, _ =>
        exact pathUp_11_6_1
      | 2, _ =>
        exact pathUp_11_6_2
      | n + 3, h => exact absurd h (by omega)
    | 7, _ =>
      match r2, h2 with
      | 0, _ =>
        exact pathUp_11_7_0
      | 1, _ =>
        exact pathUp_11_7_1
      | 2, _ =>
        exact pathUp_11_7_2
      | n + 3, h => exact absurd h (by omega)
    | 8, _ =>
      match r2, h2 with
      | 0, _ =>
        exact pathUp_11_8_0
      | 1, _ =>
        exact pathUp_11_8_1
      | 2, _ =>
        exact pathUp_11_8_2
      | n + 3, h => exact absurd h (by omega)
    | 9, _ =>
      match r2, h2 with
      | 0, _ =>
        exact pathUp_11_9_0
      | 1, _ =>
        exact pathUp_11_9_1
      | 2, _ =>
        exact pathUp_11_9_2
      | n + 3, h => exact absurd h (by omega)
    | 10, _ =>
      match r2, h2 with
      | 0, _ =>
        exact pathUp_11_10_0
      | 1, _ =>
        exact pathUp_11_10_1
      | 2, _ =>
        exact pathUp_11_10_2
      | n + 3, h => exact absurd h (by omega)
    | 11, _ =>
      match r2, h2 with
      | 0, _ =>
        exact pathUp_11_11_0
      | 1, _ =>
        exact pathUp_11_11_1
      | 2, _ =>
        exact pathUp_11_11_2
      | n + 3, h => exact absurd h (by omega)
    | 12, _ =>
      match r2, h2 with
      | 0, _ =>
        exact pathUp_11_12_0
      | 1, _ =>
        exact pathUp_11_12_1
      | 2, _ =>
        exact pathUp_11_12_2
      | n + 3, h => exact absurd h (by omega)
    | 13, _ =>
      match r2, h2 with
      | 0, _ =>
        exact pathUp_11_13_0
      | 1, _ =>
        exact pathUp_11_13_1
      | 2, _ =>
        exact pathUp_11_13_2
      | n + 3, h => exact absurd h (by omega)
    | 14, _ =>
      match r2, h2 with
      | 0, _ =>
        exact pathUp_11_14_0
      | 1, _ =>
        exact pathUp_11_14_1
      | 2, _ =>
        exact pathUp_11_14_2
      | n + 3, h => exact absurd h (by omega)
    | n + 15, h => exact absurd h (by omega)
  | n + 12, h => exact absurd h (by omega)
theorem pathUp_walk (a0 : Int) (a1 : Int) (a2 : Int) (w : World) (w0 : (Lit.int .i64 a0).wf = true) (w1 : (Lit.int .i64 a1).wf = true) (w2 : (Lit.int .i64 a2).wf = true) : Calls Tryd.prog 6 #[Value.int .i64 a0, Value.int .i64 a1, Value.int .i64 a2] w fun e w' => e = .returned (.bool true) ∧ Below w.heap.size w w' := by
  obtain ⟨r0, h0, e0⟩ := mod_cases a0 12 (by decide)
  obtain ⟨r1, h1, e1⟩ := mod_cases a1 15 (by decide)
  obtain ⟨r2, h2, e2⟩ := mod_cases a2 3 (by decide)
  exact fin_memo memo_ok (zsL [a0, a1, a2]) place_ok names_ok mixed (fun fn h => by rw [Tryd.func6] at h; obtain rfl := Option.some.inj h; rfl) (zsL_wf (fun a h => by simp only [List.mem_cons, List.not_mem_nil, or_false] at h; rcases h with rfl | rfl | rfl <;> assumption)) (tabL_ok (TabOk.cons (by decide) (by decide) e0 (TabOk.cons (by decide) (by decide) e1 (TabOk.cons (by decide) (by decide) e2 (show TabOk [] [] from trivial))))) (.cons _ _ _ _ (.sym 0) (.cons _ _ _ _ (.sym 1) (.cons _ _ _ _ (.sym 2) .nil))) (pathUp_all r0 r1 r2 h0 h1 h2)
end Go.Proofs.YtpoekljclapbfaaDoor.Fin
