/- table.all: the walk of the map literal of all functions. -/
import Derived.Test.YtlnjikneepgpaaaTabDef
namespace Go.Proofs.Ytlnjikneepgpaaa.G
open Go.RowKit Go.Maps Go.WideMaps

/-- The functions, the last one first. -/
def tabL : List (ByteArray × Inf) := [
  (⟨#[105, 110, 102, 111]⟩, ⟨1, 1, false, false⟩),
  (⟨#[119, 97, 114, 110, 105, 110, 103]⟩, ⟨1, 1, false, false⟩),
  (⟨#[101, 114, 114, 111, 114]⟩, ⟨1, 1, false, false⟩),
  (⟨#[102, 108, 97, 118, 111, 114]⟩, ⟨1, 1, false, false⟩),
  (⟨#[111, 114, 105, 103, 105, 110]⟩, ⟨1, 1, false, false⟩),
  (⟨#[118, 97, 108, 117, 101]⟩, ⟨1, 1, false, false⟩),
  (⟨#[101, 118, 97, 108]⟩, ⟨1, 1, false, false⟩),
  (⟨#[99, 97, 108, 108]⟩, ⟨1, 0, false, false⟩),
  (⟨#[108, 101, 116]⟩, ⟨3, 3, true, false⟩),
  (⟨#[102, 111, 114, 101, 97, 99, 104]⟩, ⟨3, 3, true, false⟩),
  (⟨#[105, 110, 116, 99, 109, 112]⟩, ⟨2, 5, true, false⟩),
  (⟨#[97, 110, 100]⟩, ⟨1, 0, true, false⟩),
  (⟨#[111, 114]⟩, ⟨1, 0, true, false⟩),
  (⟨#[105, 102]⟩, ⟨2, 3, true, false⟩),
  (⟨#[119, 111, 114, 100, 108, 105, 115, 116]⟩, ⟨3, 3, false, true⟩),
  (⟨#[112, 97, 116, 115, 117, 98, 115, 116]⟩, ⟨3, 3, false, true⟩),
  (⟨#[115, 117, 98, 115, 116]⟩, ⟨3, 3, false, true⟩),
  (⟨#[106, 111, 105, 110]⟩, ⟨2, 2, false, true⟩),
  (⟨#[97, 100, 100, 112, 114, 101, 102, 105, 120]⟩, ⟨2, 2, false, true⟩),
  (⟨#[97, 100, 100, 115, 117, 102, 102, 105, 120]⟩, ⟨2, 2, false, true⟩),
  (⟨#[119, 111, 114, 100]⟩, ⟨2, 2, false, true⟩),
  (⟨#[102, 105, 108, 116, 101, 114, 45, 111, 117, 116]⟩, ⟨2, 2, false, true⟩),
  (⟨#[102, 105, 108, 116, 101, 114]⟩, ⟨2, 2, false, true⟩),
  (⟨#[102, 105, 110, 100, 115, 116, 114, 105, 110, 103]⟩, ⟨2, 2, false, true⟩),
  (⟨#[119, 105, 108, 100, 99, 97, 114, 100]⟩, ⟨1, 1, false, true⟩),
  (⟨#[97, 98, 115, 112, 97, 116, 104]⟩, ⟨1, 1, false, true⟩),
  (⟨#[98, 97, 115, 101, 110, 97, 109, 101]⟩, ⟨1, 1, false, true⟩),
  (⟨#[115, 117, 102, 102, 105, 120]⟩, ⟨1, 1, false, true⟩),
  (⟨#[110, 111, 116, 100, 105, 114]⟩, ⟨1, 1, false, true⟩),
  (⟨#[100, 105, 114]⟩, ⟨1, 1, false, true⟩),
  (⟨#[108, 97, 115, 116, 119, 111, 114, 100]⟩, ⟨1, 1, false, true⟩),
  (⟨#[102, 105, 114, 115, 116, 119, 111, 114, 100]⟩, ⟨1, 1, false, true⟩),
  (⟨#[119, 111, 114, 100, 115]⟩, ⟨1, 1, false, true⟩),
  (⟨#[115, 111, 114, 116]⟩, ⟨1, 1, false, true⟩),
  (⟨#[115, 116, 114, 105, 112]⟩, ⟨1, 1, false, true⟩)]

set_option maxHeartbeats 8000000 in
set_option maxRecDepth 100000 in
theorem table_all (w : World) :
    Calls Try.prog 59 #[] w fun e w' => ∃ b B w0, e = .returned (.map (some b)) ∧ Tab B w0 w' b 35 tabL ∧ Below w.heap.size w w' ∧ w.heap.size ≤ B := by
  have hmm := @run_makeMap Try.prog
  obtain ⟨W0, hW0⟩ : ∃ W0, W0 = (((((w.alloc (.cells #[.int .i64 1, .int .i64 1, .bool false, .bool true] 61)).alloc (.cells #[.int .i64 2, .int .i64 2, .bool false, .bool true] 61)).alloc (.cells #[.int .i64 3, .int .i64 3, .bool false, .bool true] 61)).alloc (.cells #[.int .i64 1, .int .i64 1, .bool false, .bool false] 61)).alloc (.cells #[.int .i64 3, .int .i64 3, .bool true, .bool false] 61)) := ⟨_, rfl⟩
  have c00 : W0.cell? ⟨w.heap.size, 0, none⟩ = some (.int .i64 1) := by rw [hW0]; go_simp
  have c01 : W0.cell? ⟨w.heap.size, 1, none⟩ = some (.int .i64 1) := by rw [hW0]; go_simp
  have c02 : W0.cell? ⟨w.heap.size, 2, none⟩ = some (.bool false) := by rw [hW0]; go_simp
  have c03 : W0.cell? ⟨w.heap.size, 3, none⟩ = some (.bool true) := by rw [hW0]; go_simp
  have c10 : W0.cell? ⟨w.heap.size + 1, 0, none⟩ = some (.int .i64 2) := by rw [hW0]; go_simp
  have c11 : W0.cell? ⟨w.heap.size + 1, 1, none⟩ = some (.int .i64 2) := by rw [hW0]; go_simp
  have c12 : W0.cell? ⟨w.heap.size + 1, 2, none⟩ = some (.bool false) := by rw [hW0]; go_simp
  have c13 : W0.cell? ⟨w.heap.size + 1, 3, none⟩ = some (.bool true) := by rw [hW0]; go_simp
  have c20 : W0.cell? ⟨w.heap.size + 1 + 1, 0, none⟩ = some (.int .i64 3) := by rw [hW0]; go_simp
  have c21 : W0.cell? ⟨w.heap.size + 1 + 1, 1, none⟩ = some (.int .i64 3) := by rw [hW0]; go_simp
  have c22 : W0.cell? ⟨w.heap.size + 1 + 1, 2, none⟩ = some (.bool false) := by rw [hW0]; go_simp
  have c23 : W0.cell? ⟨w.heap.size + 1 + 1, 3, none⟩ = some (.bool true) := by rw [hW0]; go_simp
  have c30 : W0.cell? ⟨w.heap.size + 1 + 1 + 1, 0, none⟩ = some (.int .i64 1) := by rw [hW0]; go_simp
  have c31 : W0.cell? ⟨w.heap.size + 1 + 1 + 1, 1, none⟩ = some (.int .i64 1) := by rw [hW0]; go_simp
  have c32 : W0.cell? ⟨w.heap.size + 1 + 1 + 1, 2, none⟩ = some (.bool false) := by rw [hW0]; go_simp
  have c33 : W0.cell? ⟨w.heap.size + 1 + 1 + 1, 3, none⟩ = some (.bool false) := by rw [hW0]; go_simp
  have c40 : W0.cell? ⟨w.heap.size + 1 + 1 + 1 + 1, 0, none⟩ = some (.int .i64 3) := by rw [hW0]; go_simp
  have c41 : W0.cell? ⟨w.heap.size + 1 + 1 + 1 + 1, 1, none⟩ = some (.int .i64 3) := by rw [hW0]; go_simp
  have c42 : W0.cell? ⟨w.heap.size + 1 + 1 + 1 + 1, 2, none⟩ = some (.bool true) := by rw [hW0]; go_simp
  have c43 : W0.cell? ⟨w.heap.size + 1 + 1 + 1 + 1, 3, none⟩ = some (.bool false) := by rw [hW0]; go_simp
  have HT0 : Tab (w.heap.size + 1 + 1 + 1 + 1 + 1) W0 ((((((w.alloc (.cells #[.int .i64 1, .int .i64 1, .bool false, .bool true] 61)).alloc (.cells #[.int .i64 2, .int .i64 2, .bool false, .bool true] 61)).alloc (.cells #[.int .i64 3, .int .i64 3, .bool false, .bool true] 61)).alloc (.cells #[.int .i64 1, .int .i64 1, .bool false, .bool false] 61)).alloc (.cells #[.int .i64 3, .int .i64 3, .bool true, .bool false] 61)).alloc (.map #[] 0)) (w.heap.size + 1 + 1 + 1 + 1 + 1) 0 [] := by
    rw [hW0]; exact tab_made _ _ _ _ (Below.refl _ _) (by simp) (by simp) (by simp)
  have hB0 : Hid (Below w.heap.size w W0) := Lib.hid (by
    rw [hW0]
    exact (((((Below.refl _ _).alloc (Nat.le_refl _) _).alloc (by simp) _).alloc (by simp <;> omega) _).alloc (by simp <;> omega) _).alloc (by simp <;> omega) _)
  clear hW0
  obtain ⟨w1, r1, T1⟩ := tab_update HT0 (by unfold maxLen; omega) ⟨#[115, 116, 114, 105, 112]⟩ 1 1 false true (by unfold maxLen; decide)
  have d1 := T1.cells
  clear HT0
  obtain ⟨w2, r2, T2⟩ := tab_update T1 (by unfold maxLen; omega) ⟨#[115, 111, 114, 116]⟩ 1 1 false true (by unfold maxLen; decide)
  have d2 := T2.cells
  clear T1
  obtain ⟨w3, r3, T3⟩ := tab_update T2 (by unfold maxLen; omega) ⟨#[119, 111, 114, 100, 115]⟩ 1 1 false true (by unfold maxLen; decide)
  have d3 := T3.cells
  clear T2
  obtain ⟨w4, r4, T4⟩ := tab_update T3 (by unfold maxLen; omega) ⟨#[102, 105, 114, 115, 116, 119, 111, 114, 100]⟩ 1 1 false true (by unfold maxLen; decide)
  have d4 := T4.cells
  clear T3
  obtain ⟨w5, r5, T5⟩ := tab_update T4 (by unfold maxLen; omega) ⟨#[108, 97, 115, 116, 119, 111, 114, 100]⟩ 1 1 false true (by unfold maxLen; decide)
  have d5 := T5.cells
  clear T4
  obtain ⟨w6, r6, T6⟩ := tab_update T5 (by unfold maxLen; omega) ⟨#[100, 105, 114]⟩ 1 1 false true (by unfold maxLen; decide)
  have d6 := T6.cells
  clear T5
  obtain ⟨w7, r7, T7⟩ := tab_update T6 (by unfold maxLen; omega) ⟨#[110, 111, 116, 100, 105, 114]⟩ 1 1 false true (by unfold maxLen; decide)
  have d7 := T7.cells
  clear T6
  obtain ⟨w8, r8, T8⟩ := tab_update T7 (by unfold maxLen; omega) ⟨#[115, 117, 102, 102, 105, 120]⟩ 1 1 false true (by unfold maxLen; decide)
  have d8 := T8.cells
  clear T7
  obtain ⟨w9, r9, T9⟩ := tab_update T8 (by unfold maxLen; omega) ⟨#[98, 97, 115, 101, 110, 97, 109, 101]⟩ 1 1 false true (by unfold maxLen; decide)
  have d9 := T9.cells
  clear T8
  obtain ⟨w10, r10, T10⟩ := tab_update T9 (by unfold maxLen; omega) ⟨#[97, 98, 115, 112, 97, 116, 104]⟩ 1 1 false true (by unfold maxLen; decide)
  have d10 := T10.cells
  clear T9
  obtain ⟨w11, r11, T11⟩ := tab_update T10 (by unfold maxLen; omega) ⟨#[119, 105, 108, 100, 99, 97, 114, 100]⟩ 1 1 false true (by unfold maxLen; decide)
  have d11 := T11.cells
  clear T10
  obtain ⟨w12, r12, T12⟩ := tab_update T11 (by unfold maxLen; omega) ⟨#[102, 105, 110, 100, 115, 116, 114, 105, 110, 103]⟩ 2 2 false true (by unfold maxLen; decide)
  have d12 := T12.cells
  clear T11
  obtain ⟨w13, r13, T13⟩ := tab_update T12 (by unfold maxLen; omega) ⟨#[102, 105, 108, 116, 101, 114]⟩ 2 2 false true (by unfold maxLen; decide)
  have d13 := T13.cells
  clear T12
  obtain ⟨w14, r14, T14⟩ := tab_update T13 (by unfold maxLen; omega) ⟨#[102, 105, 108, 116, 101, 114, 45, 111, 117, 116]⟩ 2 2 false true (by unfold maxLen; decide)
  have d14 := T14.cells
  clear T13
  obtain ⟨w15, r15, T15⟩ := tab_update T14 (by unfold maxLen; omega) ⟨#[119, 111, 114, 100]⟩ 2 2 false true (by unfold maxLen; decide)
  have d15 := T15.cells
  clear T14
  obtain ⟨w16, r16, T16⟩ := tab_update T15 (by unfold maxLen; omega) ⟨#[97, 100, 100, 115, 117, 102, 102, 105, 120]⟩ 2 2 false true (by unfold maxLen; decide)
  have d16 := T16.cells
  clear T15
  obtain ⟨w17, r17, T17⟩ := tab_update T16 (by unfold maxLen; omega) ⟨#[97, 100, 100, 112, 114, 101, 102, 105, 120]⟩ 2 2 false true (by unfold maxLen; decide)
  have d17 := T17.cells
  clear T16
  obtain ⟨w18, r18, T18⟩ := tab_update T17 (by unfold maxLen; omega) ⟨#[106, 111, 105, 110]⟩ 2 2 false true (by unfold maxLen; decide)
  have d18 := T18.cells
  clear T17
  obtain ⟨w19, r19, T19⟩ := tab_update T18 (by unfold maxLen; omega) ⟨#[115, 117, 98, 115, 116]⟩ 3 3 false true (by unfold maxLen; decide)
  have d19 := T19.cells
  clear T18
  obtain ⟨w20, r20, T20⟩ := tab_update T19 (by unfold maxLen; omega) ⟨#[112, 97, 116, 115, 117, 98, 115, 116]⟩ 3 3 false true (by unfold maxLen; decide)
  have d20 := T20.cells
  clear T19
  obtain ⟨w21, r21, T21⟩ := tab_update T20 (by unfold maxLen; omega) ⟨#[119, 111, 114, 100, 108, 105, 115, 116]⟩ 3 3 false true (by unfold maxLen; decide)
  have d21 := T21.cells
  clear T20
  obtain ⟨w22, r22, T22⟩ := tab_update T21 (by unfold maxLen; omega) ⟨#[105, 102]⟩ 2 3 true false (by unfold maxLen; decide)
  have d22 := T22.cells
  clear T21
  obtain ⟨w23, r23, T23⟩ := tab_update T22 (by unfold maxLen; omega) ⟨#[111, 114]⟩ 1 0 true false (by unfold maxLen; decide)
  have d23 := T23.cells
  clear T22
  obtain ⟨w24, r24, T24⟩ := tab_update T23 (by unfold maxLen; omega) ⟨#[97, 110, 100]⟩ 1 0 true false (by unfold maxLen; decide)
  have d24 := T24.cells
  clear T23
  obtain ⟨w25, r25, T25⟩ := tab_update T24 (by unfold maxLen; omega) ⟨#[105, 110, 116, 99, 109, 112]⟩ 2 5 true false (by unfold maxLen; decide)
  have d25 := T25.cells
  clear T24
  obtain ⟨w26, r26, T26⟩ := tab_update T25 (by unfold maxLen; omega) ⟨#[102, 111, 114, 101, 97, 99, 104]⟩ 3 3 true false (by unfold maxLen; decide)
  have d26 := T26.cells
  clear T25
  obtain ⟨w27, r27, T27⟩ := tab_update T26 (by unfold maxLen; omega) ⟨#[108, 101, 116]⟩ 3 3 true false (by unfold maxLen; decide)
  have d27 := T27.cells
  clear T26
  obtain ⟨w28, r28, T28⟩ := tab_update T27 (by unfold maxLen; omega) ⟨#[99, 97, 108, 108]⟩ 1 0 false false (by unfold maxLen; decide)
  have d28 := T28.cells
  clear T27
  obtain ⟨w29, r29, T29⟩ := tab_update T28 (by unfold maxLen; omega) ⟨#[101, 118, 97, 108]⟩ 1 1 false false (by unfold maxLen; decide)
  have d29 := T29.cells
  clear T28
  obtain ⟨w30, r30, T30⟩ := tab_update T29 (by unfold maxLen; omega) ⟨#[118, 97, 108, 117, 101]⟩ 1 1 false false (by unfold maxLen; decide)
  have d30 := T30.cells
  clear T29
  obtain ⟨w31, r31, T31⟩ := tab_update T30 (by unfold maxLen; omega) ⟨#[111, 114, 105, 103, 105, 110]⟩ 1 1 false false (by unfold maxLen; decide)
  have d31 := T31.cells
  clear T30
  obtain ⟨w32, r32, T32⟩ := tab_update T31 (by unfold maxLen; omega) ⟨#[102, 108, 97, 118, 111, 114]⟩ 1 1 false false (by unfold maxLen; decide)
  have d32 := T32.cells
  clear T31
  obtain ⟨w33, r33, T33⟩ := tab_update T32 (by unfold maxLen; omega) ⟨#[101, 114, 114, 111, 114]⟩ 1 1 false false (by unfold maxLen; decide)
  have d33 := T33.cells
  clear T32
  obtain ⟨w34, r34, T34⟩ := tab_update T33 (by unfold maxLen; omega) ⟨#[119, 97, 114, 110, 105, 110, 103]⟩ 1 1 false false (by unfold maxLen; decide)
  have d34 := T34.cells
  clear T33
  obtain ⟨w35, r35, T35⟩ := tab_update T34 (by unfold maxLen; omega) ⟨#[105, 110, 102, 111]⟩ 1 1 false false (by unfold maxLen; decide)
  clear T34
  have HT := Lib.hid T35
  clear T35
  go_enter Try.func59, Try.ntmps59
  go_wp2_with fail
  go_ret
  exact ⟨_, _, _, rfl, HT.out, hB0.out.trans (HT.out.2.1.mono (by omega)), by omega⟩
end Go.Proofs.Ytlnjikneepgpaaa.G
