/- The law ListsPairs: each case of it, and with them its walk. -/
import Derived.Test.YtlmabmpdbcgabaaFinListsPairs0
import Derived.Test.YtlmabmpdbcgabaaFinListsPairs1
import Derived.Test.YtlmabmpdbcgabaaFinListsPairs2
import Derived.Test.YtlmabmpdbcgabaaFinListsPairs3
import Derived.Test.YtlmabmpdbcgabaaFinListsPairs4
import Derived.Test.YtlmabmpdbcgabaaFinListsPairs5
import Derived.Test.YtlmabmpdbcgabaaFinListsPairs6
import Derived.Test.YtlmabmpdbcgabaaFinListsPairs7
import Derived.Test.YtlmabmpdbcgabaaFinListsPairs8
import Derived.Test.YtlmabmpdbcgabaaFinListsPairs9
import Derived.Test.YtlmabmpdbcgabaaFinListsPairs10
import Derived.Test.YtlmabmpdbcgabaaFinListsPairs11
import Derived.Test.YtlmabmpdbcgabaaFinListsPairs12
import Derived.Test.YtlmabmpdbcgabaaFinListsPairs13
import Derived.Test.YtlmabmpdbcgabaaFinListsPairs14
import Derived.Test.YtlmabmpdbcgabaaFinListsPairs15
import Derived.Test.YtlmabmpdbcgabaaFinListsPairs16
import Derived.Test.YtlmabmpdbcgabaaFinListsPairs17
import Derived.Test.YtlmabmpdbcgabaaFinListsPairs18
import Derived.Test.YtlmabmpdbcgabaaFinListsPairs19
import Derived.Test.YtlmabmpdbcgabaaFinListsPairs20
import Derived.Test.YtlmabmpdbcgabaaFinListsPairs21
import Derived.Test.YtlmabmpdbcgabaaFinListsPairs22
import Derived.Test.YtlmabmpdbcgabaaFinListsPairs23
import Derived.Test.YtlmabmpdbcgabaaFinListsPairs24
import Derived.Test.YtlmabmpdbcgabaaFinListsPairs25
import Derived.Test.YtlmabmpdbcgabaaFinListsPairs26
import Derived.Test.YtlmabmpdbcgabaaFinListsPairs27
import Derived.Test.YtlmabmpdbcgabaaFinListsPairs28
namespace Go.Proofs.Ytlmabmpdbcgabaa.Fin
open Go.Proofs.Ytlmabmpdbcgabaa.Fast Go.RowKit
set_option linter.unusedVariables false

theorem listsPairs_all (r0 : Nat) (r1 : Nat) (h0 : r0 < 20) (h1 : r1 < 20) : listsPairsGo r0 r1 = true := by
  match r0, h0 with
  | 0, _ =>
    match r1, h1 with
    | 0, _ =>
      exact listsPairs_0_0
    | 1, _ =>
      exact listsPairs_0_1
    | 2, _ =>
      exact listsPairs_0_2
    | 3, _ =>
      exact listsPairs_0_3
    | 4, _ =>
      exact listsPairs_0_4
    | 5, _ =>
      exact listsPairs_0_5
    | 6, _ =>
      exact listsPairs_0_6
    | 7, _ =>
      exact listsPairs_0_7
    | 8, _ =>
      exact listsPairs_0_8
    | 9, _ =>
      exact listsPairs_0_9
    | 10, _ =>
      exact listsPairs_0_10
    | 11, _ =>
      exact listsPairs_0_11
    | 12, _ =>
      exact listsPairs_0_12
    | 13, _ =>
      exact listsPairs_0_13
    | 14, _ =>
      exact listsPairs_0_14
    | 15, _ =>
      exact listsPairs_0_15
    | 16, _ =>
      exact listsPairs_0_16
    | 17, _ =>
      exact listsPairs_0_17
    | 18, _ =>
      exact listsPairs_0_18
    | 19, _ =>
      exact listsPairs_0_19
    | n + 20, h => exact absurd h (by omega)
  | 1, _ =>
    match r1, h1 with
    | 0, _ =>
      exact listsPairs_1_0
    | 1, _ =>
      exact listsPairs_1_1
    | 2, _ =>
      exact listsPairs_1_2
    | 3, _ =>
      exact listsPairs_1_3
    | 4, _ =>
      exact listsPairs_1_4
    | 5, _ =>
      exact listsPairs_1_5
    | 6, _ =>
      exact listsPairs_1_6
    | 7, _ =>
      exact listsPairs_1_7
    | 8, _ =>
      exact listsPairs_1_8
    | 9, _ =>
      exact listsPairs_1_9
    | 10, _ =>
      exact listsPairs_1_10
    | 11, _ =>
      exact listsPairs_1_11
    | 12, _ =>
      exact listsPairs_1_12
    | 13, _ =>
      exact listsPairs_1_13
    | 14, _ =>
      exact listsPairs_1_14
    | 15, _ =>
      exact listsPairs_1_15
    | 16, _ =>
      exact listsPairs_1_16
    | 17, _ =>
      exact listsPairs_1_17
    | 18, _ =>
      exact listsPairs_1_18
    | 19, _ =>
      exact listsPairs_1_19
    | n + 20, h => exact absurd h (by omega)
  | 2, _ =>
    match r1, h1 with
    | 0, _ =>
      exact listsPairs_2_0
    | 1, _ =>
      exact listsPairs_2_1
    | 2, _ =>
      exact listsPairs_2_2
    | 3, _ =>
      exact listsPairs_2_3
    | 4, _ =>
      exact listsPairs_2_4
    | 5, _ =>
      exact listsPairs_2_5
    | 6, _ =>
      exact listsPairs_2_6
    | 7, _ =>
      exact listsPairs_2_7
    | 8, _ =>
      exact listsPairs_2_8
    | 9, _ =>
      exact listsPairs_2_9
    | 10, _ =>
      exact listsPairs_2_10
    | 11, _ =>
      exact listsPairs_2_11
    | 12, _ =>
      exact listsPairs_2_12
    | 13, _ =>
      exact listsPairs_2_13
    | 14, _ =>
      exact listsPairs_2_14
    | 15, _ =>
      exact listsPairs_2_15
    | 16, _ =>
      exact listsPairs_2_16
    | 17, _ =>
      exact listsPairs_2_17
    | 18, _ =>
      exact listsPairs_2_18
    | 19, _ =>
      exact listsPairs_2_19
    | n + 20, h => exact absurd h (by omega)
  | 3, _ =>
    match r1, h1 with
    | 0, _ =>
      exact listsPairs_3_0
    | 1, _ =>
      exact listsPairs_3_1
    | 2, _ =>
      exact listsPairs_3_2
    | 3, _ =>
      exact listsPairs_3_3
    | 4, _ =>
      exact listsPairs_3_4
    | 5, _ =>
      exact listsPairs_3_5
    | 6, _ =>
      exact listsPairs_3_6
    | 7, _ =>
      exact listsPairs_3_7
    | 8, _ =>
      exact listsPairs_3_8
    | 9, _ =>
      exact listsPairs_3_9
    | 10, _ =>
      exact listsPairs_3_10
    | 11, _ =>
      exact listsPairs_3_11
    | 12, _ =>
      exact listsPairs_3_12
    | 13, _ =>
      exact listsPairs_3_13
    | 14, _ =>
      exact listsPairs_3_14
    | 15, _ =>
      exact listsPairs_3_15
    | 16, _ =>
      exact listsPairs_3_16
    | 17, _ =>
      exact listsPairs_3_17
    | 18, _ =>
      exact listsPairs_3_18
    | 19, _ =>
      exact listsPairs_3_19
    | n + 20, h => exact absurd h (by omega)
  | 4, _ =>
    match r1, h1 with
    | 0, _ =>
      exact listsPairs_4_0
    | 1, _ =>
      exact listsPairs_4_1
    | 2, _ =>
      exact listsPairs_4_2
    | 3, _ =>
      exact listsPairs_4_3
    | 4, _ =>
      exact listsPairs_4_4
    | 5, _ =>
      exact listsPairs_4_5
    | 6, _ =>
      exact listsPairs_4_6
    | 7, _ =>
      exact listsPairs_4_7
    | 8, _ =>
      exact listsPairs_4_8
    | 9, _ =>
      exact listsPairs_4_9
    | 10, _ =>
      exact listsPairs_4_10
    | 11, _ =>
      exact listsPairs_4_11
    | 12, _ =>
      exact listsPairs_4_12
    | 13, _ =>
      exact listsPairs_4_13
    | 14, _ =>
      exact listsPairs_4_14
    | 15, _ =>
      exact listsPairs_4_15
    | 16, _ =>
      exact listsPairs_4_16
    | 17, _ =>
      exact listsPairs_4_17
    | 18, _ =>
      exact listsPairs_4_18
    | 19, _ =>
      exact listsPairs_4_19
    | n + 20, h => exact absurd h (by omega)
  | 5, _ =>
    match r1, h1 with
    | 0, _ =>
      exact listsPairs_5_0
    | 1, _ =>
      exact listsPairs_5_1
    | 2, _ =>
      exact listsPairs_5_2
    | 3, _ =>
      exact listsPairs_5_3
    | 4, _ =>
      exact listsPairs_5_4
    | 5, _ =>
      exact listsPairs_5_5
    | 6, _ =>
      exact listsPairs_5_6
    | 7, _ =>
      exact listsPairs_5_7
    | 8, _ =>
      exact listsPairs_5_8
    | 9, _ =>
      exact listsPairs_5_9
    | 10, _ =>
      exact listsPairs_5_10
    | 11, _ =>
      exact listsPairs_5_11
    | 12, _ =>
      exact listsPairs_5_12
    | 13, _ =>
      exact listsPairs_5_13
    | 14, _ =>
      exact listsPairs_5_14
    | 15, _ =>
      exact listsPairs_5_15
    | 16, _ =>
      exact listsPairs_5_16
    | 17, _ =>
      exact listsPairs_5_17
    | 18, _ =>
      exact listsPairs_5_18
    | 19, _ =>
      exact listsPairs_5_19
    | n + 20, h => exact absurd h (by omega)
  | 6, _ =>
    match r1, h1 with
    | 0, _ =>
      exact listsPairs_6_0
    | 1, _ =>
      exact listsPairs_6_1
    | 2, _ =>
      exact listsPairs_6_2
    | 3, _ =>
      exact listsPairs_6_3
    | 4, _ =>
      exact listsPairs_6_4
    | 5, _ =>
      exact listsPairs_6_5
    | 6, _ =>
      exact listsPairs_6_6
    | 7, _ =>
      exact listsPairs_6_7
    | 8, _ =>
      exact listsPairs_6_8
    | 9, _ =>
      exact listsPairs_6_9
    | 10, _ =>
      exact listsPairs_6_10
    | 11, _ =>
      exact listsPairs_6_11
    | 12, _ =>
      exact listsPairs_6_12
    | 13, _ =>
      exact listsPairs_6_13
    | 14, _ =>
      exact listsPairs_6_14
    | 15, _ =>
      exact listsPairs_6_15
    | 16, _ =>
      exact listsPairs_6_16
    | 17, _ =>
      exact listsPairs_6_17
    | 18, _ =>
      exact listsPairs_6_18
    | 19, _ =>
      exact listsPairs_6_19
    | n + 20, h => exact absurd h (by omega)
  | 7, _ =>
    match r1, h1 with
    | 0, _ =>
      exact listsPairs_7_0
    | 1, _ =>
      exact listsPairs_7_1
    | 2, _ =>
      exact listsPairs_7_2
    | 3, _ =>
      exact listsPairs_7_3
    | 4, _ =>
      exact listsPairs_7_4
    | 5, _ =>
      exact listsPairs_7_5
    | 6, _ =>
      exact listsPairs_7_6
    | 7, _ =>
      exact listsPairs_7_7
    | 8, _ =>
      exact listsPairs_7_8
    | 9, _ =>
      exact listsPairs_7_9
    | 10, _ =>
      exact listsPairs_7_10
    | 11, _ =>
      exact listsPairs_7_11
    | 12, _ =>
      exact listsPairs_7_12
    | 13, _ =>
      exact listsPairs_7_13
    | 14, _ =>
      exact listsPairs_7_14
    | 15, _ =>
      exact listsPairs_7_15
    | 16, _ =>
      exact listsPairs_7_16
    | 17, _ =>
      exact listsPairs_7_17
    | 18, _ =>
      exact listsPairs_7_18
    | 19, _ =>
      exact listsPairs_7_19
    | n + 20, h => exact absurd h (by omega)
  | 8, _ =>
    match r1, h1 with
    | 0, _ =>
      exact listsPairs_8_0
    | 1, _ =>
      exact listsPairs_8_1
    | 2, _ =>
      exact listsPairs_8_2
    | 3, _ =>
      exact listsPairs_8_3
    | 4, _ =>
      exact listsPairs_8_4
    | 5, _ =>
      exact listsPairs_8_5
    | 6, _ =>
      exact listsPairs_8_6
    | 7, _ =>
      exact listsPairs_8_7
    | 8, _ =>
      exact listsPairs_8_8
    | 9, _ =>
      exact listsPairs_8_9
    | 10, _ =>
      exact listsPairs_8_10
    | 11, _ =>
      exact listsPairs_8_11
    | 12, _ =>
      exact listsPairs_8_12
    | 13, _ =>
      exact listsPairs_8_13
    | 14, _ =>
      exact listsPairs_8_14
    | 15, _ =>
      exact listsPairs_8_15
    | 16, _ =>
      exact listsPairs_8_16
    | 17, _ =>
      exact listsPairs_8_17
    | 18, _ =>
      exact listsPairs_8_18
    | 19, _ =>
      exact listsPairs_8_19
    | n + 20, h => exact absurd h (by omega)
  | 9, _ =>
    match r1, h1 with
    | 0, _ =>
      exact listsPairs_9_0
    | 1, _ =>
      exact listsPairs_9_1
    | 2, _ =>
      exact listsPairs_9_2
    | 3, _ =>
      exact listsPairs_9_3
    | 4, _ =>
      exact listsPairs_9_4
    | 5, _ =>
      exact listsPairs_9_5
    | 6, _ =>
      exact listsPairs_9_6
    | 7, _ =>
      exact listsPairs_9_7
    | 8, _ =>
      exact listsPairs_9_8
    | 9, _ =>
      exact listsPairs_9_9
    | 10, _ =>
      exact listsPairs_9_10
    | 11, _ =>
      exact listsPairs_9_11
    | 12, _ =>
      exact listsPairs_9_12
    | 13, _ =>
      exact listsPairs_9_13
    | 14, _ =>
      exact listsPairs_9_14
    | 15, _ =>
      exact listsPairs_9_15
    | 16, _ =>
      exact listsPairs_9_16
    | 17, _ =>
      exact listsPairs_9_17
    | 18, _ =>
      exact listsPairs_9_18
    | 19, _ =>
      exact listsPairs_9_19
    | n + 20, h => exact absurd h (by omega)
  | 10, _ =>
    match r1, h1 with
    | 0, _ =>
      exact listsPairs_10_0
    | 1, _ =>
      exact listsPairs_10_1
    | 2, _ =>
      exact listsPairs_10_2
    | 3, _ =>
      exact listsPairs_10_3
    | 4, _ =>
      exact listsPairs_10_4
    | 5, _ =>
      exact listsPairs_10_5
    | 6, _ =>
      exact listsPairs_10_6
    | 7, _ =>
      exact listsPairs_10_7
    | 8, _ =>
      exact listsPairs_10_8
    | 9, _ =>
      exact listsPairs_10_9
    | 10, _ =>
      exact listsPairs_10_10
    | 11, _ =>
      exact listsPairs_10_11
    | 12, _ =>
      exact listsPairs_10_12
    | 13, _ =>
      exact listsPairs_10_13
    | 14, _ =>
      exact listsPairs_10_14
    | 15, _ =>
      exact listsPairs_10_15
    | 16, _ =>
      exact listsPairs_10_16
    | 17, _ =>
      exact listsPairs_10_17
    | 18, _ =>
      exact listsPairs_10_18
    | 19, _ =>
      exact listsPairs_10_19
    | n + 20, h => exact absurd h (by omega)
  | 11, _ =>
    match r1, h1 with
    | 0, _ =>
      exact listsPairs_11_0
    | 1, _ =>
      exact listsPairs_11_1
    | 2, _ =>
      exact listsPairs_11_2
    | 3, _ =>
      exact listsPairs_11_3
    | 4, _ =>
      exact listsPairs_11_4
    | 5, _ =>
      exact listsPairs_11_5
    | 6, _ =>
      exact listsPairs_11_6
    | 7, _ =>
      exact listsPairs_11_7
    | 8, _ =>
      exact listsPairs_11_8
    | 9, _ =>
      exact listsPairs_11_9
    | 10, _ =>
      exact listsPairs_11_10
    | 11, _ =>
      exact listsPairs_11_11
    | 12, _ =>
      exact listsPairs_11_12
    | 13, _ =>
      exact listsPairs_11_13
    | 14, _ =>
      exact listsPairs_11_14
    | 15, _ =>
      exact listsPairs_11_15
    | 16, _ =>
      exact listsPairs_11_16
    | 17, _ =>
      exact listsPairs_11_17
    | 18, _ =>
      exact listsPairs_11_18
    | 19, _ =>
      exact listsPairs_11_19
    | n + 20, h => exact absurd h (by omega)
  | 12, _ =>
    match r1, h1 with
    | 0, _ =>
      exact listsPairs_12_0
    | 1, _ =>
      exact listsPairs_12_1
    | 2, _ =>
      exact listsPairs_12_2
    | 3, _ =>
      exact listsPairs_12_3
    | 4, _ =>
      exact listsPairs_12_4
    | 5, _ =>
      exact listsPairs_12_5
    | 6, _ =>
      exact listsPairs_12_6
    | 7, _ =>
      exact listsPairs_12_7
    | 8, _ =>
      exact listsPairs_12_8
    | 9, _ =>
      exact listsPairs_12_9
    | 10, _ =>
      exact listsPairs_12_10
    | 11, _ =>
      exact listsPairs_12_11
    | 12, _ =>
      exact listsPairs_12_12
    | 13, _ =>
      exact listsPairs_12_13
    | 14, _ =>
      exact listsPairs_12_14
    | 15, _ =>
      exact listsPairs_12_15
    | 16, _ =>
      exact listsPairs_12_16
    | 17, _ =>
      exact listsPairs_12_17
    | 18, _ =>
      exact listsPairs_12_18
    | 19, _ =>
      exact listsPairs_12_19
    | n + 20, h => exact absurd h (by omega)
  | 13, _ =>
    match r1, h1 with
    | 0, _ =>
      exact listsPairs_13_0
    | 1, _ =>
      exact listsPairs_13_1
    | 2, _ =>
      exact listsPairs_13_2
    | 3, _ =>
      exact listsPairs_13_3
    | 4, _ =>
      exact listsPairs_13_4
    | 5, _ =>
      exact listsPairs_13_5
    | 6, _ =>
      exact listsPairs_13_6
    | 7, _ =>
      exact listsPairs_13_7
    | 8, _ =>
      exact listsPairs_13_8
    | 9, _ =>
      exact listsPairs_13_9
    | 10, _ =>
      exact listsPairs_13_10
    | 11, _ =>
      exact listsPairs_13_11
    | 12, _ =>
      exact listsPairs_13_12
    | 13, _ =>
      exact listsPairs_13_13
    | 14, _ =>
      exact listsPairs_13_14
    | 15, _ =>
      exact listsPairs_13_15
    | 16, _ =>
      exact listsPairs_13_16
    | 17, _ =>
      exact listsPairs_13_17
    | 18, _ =>
      exact listsPairs_13_18
    | 19, _ =>
      exact listsPairs_13_19
    | n + 20, h => exact absurd h (by omega)
  | 14, _ =>
    match r1, h1 with
    | 0, _ =>
      exact listsPairs_14_0
    | 1, _ =>
      exact listsPairs_14_1
    | 2, _ =>
      exact listsPairs_14_2
    | 3, _ =>
      exact listsPairs_14_3
    | 4, _ =>
      exact listsPairs_14_4
    | 5, _ =>
      exact listsPairs_14_5
    | 6, _ =>
      exact listsPairs_14_6
    | 7, _ =>
      exact listsPairs_14_7
    | 8, _ =>
      exact listsPairs_14_8
    | 9, _ =>
      exact listsPairs_14_9
    | 10, _ =>
      exact listsPairs_14_10
    | 11, _ =>
      exact listsPairs_14_11
    | 12, _ =>
      exact listsPairs_14_12
    | 13, _ =>
      exact listsPairs_14_13
    | 14, _ =>
      exact listsPairs_14_14
    | 15, _ =>
      exact listsPairs_14_15
    | 16, _ =>
      exact listsPairs_14_16
    | 17, _ =>
      exact listsPairs_14_17
    | 18, _ =>
      exact listsPairs_14_18
    | 19, _ =>
      exact listsPairs_14_19
    | n + 20, h => exact absurd h (by omega)
  | 15, _ =>
    match r1, h1 with
    | 0, _ =>
      exact listsPairs_15_0
    | 1, _ =>
      exact listsPairs_15_1
    | 2, _ =>
      exact listsPairs_15_2
    | 3, _ =>
      exact listsPairs_15_3
    | 4, _ =>
      exact listsPairs_15_4
    | 5, _ =>
      exact listsPairs_15_5
    | 6, _ =>
      exact listsPairs_15_6
    | 7, _ =>
      exact listsPairs_15_7
    | 8, _ =>
      exact listsPairs_15_8
    | 9, _ =>
      exact listsPairs_15_9
    | 10, _ =>
      exact listsPairs_15_10
    | 11, _ =>
      exact listsPairs_15_11
    | 12, _ =>
      exact listsPairs_15_12
    | 13, _ =>
      exact listsPairs_15_13
    | 14, _ =>
      exact listsPairs_15_14
    | 15, _ =>
      exact listsPairs_15_15
    | 16, _ =>
      exact listsPairs_15_16
    | 17, _ =>
      exact listsPairs_15_17
    | 18, _ =>
      exact listsPairs_15_18
    | 19, _ =>
      exact listsPairs_15_19
    | n + 20, h => exact absurd h (by omega)
  | 16, _ =>
    match r1, h1 with
    | 0, _ =>
      exact listsPairs_16_0
    | 1, _ =>
      exact listsPairs_16_1
    | 2, _ =>
      exact listsPairs_16_2
    | 3, _ =>
      exact listsPairs_16_3
    | 4, _ =>
      exact listsPairs_16_4
    | 5, _ =>
      exact listsPairs_16_5
    | 6, _ =>
      exact listsPairs_16_6
    | 7, _ =>
      exact listsPairs_16_7
    | 8, _ =>
      exact listsPairs_16_8
    | 9, _ =>
      exact listsPairs_16_9
    | 10, _ =>
      exact listsPairs_16_10
    | 11, _ =>
      exact listsPairs_16_11
    | 12, _ =>
      exact listsPairs_16_12
    | 13, _ =>
      exact listsPairs_16_13
    | 14, _ =>
      exact listsPairs_16_14
    | 15, _ =>
      exact listsPairs_16_15
    | 16, _ =>
      exact listsPairs_16_16
    | 17, _ =>
      exact listsPairs_16_17
    | 18, _ =>
      exact listsPairs_16_18
    | 19, _ =>
      exact listsPairs_16_19
    | n + 20, h => exact absurd h (by omega)
  | 17, _ =>
    match r1, h1 with
    | 0, _ =>
      exact listsPairs_17_0
    | 1, _ =>
      exact listsPairs_17_1
    | 2, _ =>
      exact listsPairs_17_2
    | 3, _ =>
      exact listsPairs_17_3
    | 4, _ =>
      exact listsPairs_17_4
    | 5, _ =>
      exact listsPairs_17_5
    | 6, _ =>
      exact listsPairs_17_6
    | 7, _ =>
      exact listsPairs_17_7
    | 8, _ =>
      exact listsPairs_17_8
    | 9, _ =>
      exact listsPairs_17_9
    | 10, _ =>
      exact listsPairs_17_10
    | 11, _ =>
      exact listsPairs_17_11
    | 12, _ =>
      exact listsPairs_17_12
    | 13, _ =>
      exact listsPairs_17_13
    | 14, _ =>
      exact listsPairs_17_14
    | 15, _ =>
      exact listsPairs_17_15
    | 16, _ =>
      exact listsPairs_17_16
    | 17, _ =>
      exact listsPairs_17_17
    | 18, _ =>
      exact listsPairs_17_18
    | 19, _ =>
      exact listsPairs_17_19
    | n + 20, h => exact absurd h (by omega)
  | 18, _ =>
    match r1, h1 with
    | 0, _ =>
      exact listsPairs_18_0
    | 1, _ =>
      exact listsPairs_18_1
    | 2, _ =>
      exact listsPairs_18_2
    | 3, _ =>
      exact listsPairs_18_3
    | 4, _ =>
      exact listsPairs_18_4
    | 5, _ =>
      exact listsPairs_18_5
    | 6, _ =>
      exact listsPairs_18_6
    | 7, _ =>
      exact listsPairs_18_7
    | 8, _ =>
      exact listsPairs_18_8
    | 9, _ =>
      exact listsPairs_18_9
    | 10, _ =>
      exact listsPairs_18_10
    | 11, _ =>
      exact listsPairs_18_11
    | 12, _ =>
      exact listsPairs_18_12
    | 13, _ =>
      exact listsPairs_18_13
    | 14, _ =>
      exact listsPairs_18_14
    | 15, _ =>
      exact listsPairs_18_15
    | 16, _ =>
      exact listsPairs_18_16
    | 17, _ =>
      exact listsPairs_18_17
    | 18, _ =>
      exact listsPairs_18_18
    | 19, _ =>
      exact listsPairs_18_19
    | n + 20, h => exact absurd h (by omega)
  | 19, _ =>
    match r1, h1 with
    | 0, _ =>
      exact listsPairs_19_0
    | 1, _ =>
      exact listsPairs_19_1
    | 2, _ =>
      exact listsPairs_19_2
    | 3, _ =>
      exact listsPairs_19_3
    | 4, _ =>
      exact listsPairs_19_4
    | 5, _ =>
      exact listsPairs_19_5
    | 6, _ =>
      exact listsPairs_19_6
    | 7, _ =>
      exact listsPairs_19_7
    | 8, _ =>
      exact listsPairs_19_8
    | 9, _ =>
      exact listsPairs_19_9
    | 10, _ =>
      exact listsPairs_19_10
    | 11, _ =>
      exact listsPairs_19_11
    | 12, _ =>
      exact listsPairs_19_12
    | 13, _ =>
      exact listsPairs_19_13
    | 14, _ =>
      exact listsPairs_19_14
    | 15, _ =>
      exact listsPairs_19_15
    | 16, _ =>
      exact listsPairs_19_16
    | 17, _ =>
      exact listsPairs_19_17
    | 18, _ =>
      exact listsPairs_19_18
    | 19, _ =>
      exact listsPairs_19_19
    | n + 20, h => exact absurd h (by omega)
  | n + 20, h => exact absurd h (by omega)
theorem listsPairs_walk (a0 : Int) (a1 : Int) (w : World) (w0 : (Lit.int .i64 a0).wf = true) (w1 : (Lit.int .i64 a1).wf = true) : Calls Try.prog 6 #[Value.int .i64 a0, Value.int .i64 a1] w fun e w' => e = .returned (.bool true) ∧ Below w.heap.size w w' := by
  obtain ⟨r0, h0, e0⟩ := mod_cases a0 20 (by decide)
  obtain ⟨r1, h1, e1⟩ := mod_cases a1 20 (by decide)
  exact fin_memo memo_ok (zs2 a0 a1) place_ok names_ok mixed (fun fn h => by rw [Try.func6] at h; obtain rfl := Option.some.inj h; rfl) (zs2_wf w0 w1) (tab2_ok (by decide) (by decide) e0 (by decide) (by decide) e1) (.cons _ _ _ _ (.sym 0) (.cons _ _ _ _ (.sym 1) .nil)) (listsPairs_all r0 r1 h0 h1)
end Go.Proofs.Ytlmabmpdbcgabaa.Fin
