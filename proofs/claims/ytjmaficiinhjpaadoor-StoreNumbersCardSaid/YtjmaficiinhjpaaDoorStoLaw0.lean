/- store's laws: Place, Digits, Word. -/
import Derived.Test.YtjmaficiinhjpaaDoorStoAwk
import Derived.Deep.QuietTactic
import Derived.BigQuiet
import Derived.IntWalk
namespace Go.Proofs.YtjmaficiinhjpaaDoor.G
open Go.RowKit Go.Maps Go.WideMaps Go.Sort

theorem place_any (a m : Int) (h0 : 0 < m) (h1 : m ≤ 4611686018427387904) (w : World) :
    Calls Tryd.prog 8 #[.int .i64 a, .int .i64 m] w fun e w' => ∃ t : Nat, (t : Int) < m ∧ e = .returned (.int .i64 t) ∧ w = w' := by
  have hl := Int.tmod_lt_of_pos a h0
  have hg := Int.lt_tmod_of_pos a h0
  have hne : ¬ m = 0 := by omega
  obtain ⟨q, hq⟩ : ∃ q, q = a.tmod m := ⟨_, rfl⟩
  have HQ := Lib.hid hq
  rw [← hq] at hl hg
  by_cases h : q < 0
  · rw [hq] at h
    go_enter Tryd.func8, Tryd.ntmps8
    go_wp2
    go_ret
    refine ⟨(q + m).toNat, by omega, ?_, rfl⟩
    rw [HQ.out] at hl hg ⊢
    congr 2
    rw [Int.toNat_of_nonneg (by omega)]
    rfl
  · rw [hq] at h
    go_enter Tryd.func8, Tryd.ntmps8
    go_wp2
    go_ret
    refine ⟨q.toNat, by omega, ?_, rfl⟩
    rw [HQ.out] at hl hg ⊢
    congr 2
    rw [Int.toNat_of_nonneg (by omega)]
    rfl

/-! ### Digits -/
/-- The text of a small number. -/
def dig (i : Nat) : ByteArray := if i < 10 then ⟨#[UInt8.ofNat (48 + i)]⟩ else if i < 100 then ⟨#[UInt8.ofNat (48 + i / 10), UInt8.ofNat (48 + i % 10)]⟩ else ⟨#[UInt8.ofNat (48 + i / 100), UInt8.ofNat (48 + i / 10 % 10), UInt8.ofNat (48 + i % 10)]⟩
theorem dig_size (i : Nat) : (dig i).size ≤ 3 ∧ 0 < (dig i).size := by
  unfold dig
  split
  · exact ⟨by show 1 ≤ 3; omega, by show 0 < 1; omega⟩
  · split
    · exact ⟨by show 2 ≤ 3; omega, by show 0 < 2; omega⟩
    · exact ⟨by show 3 ≤ 3; omega, by show 0 < 3; omega⟩
def digs10 : ByteArray := ⟨#[48, 49, 50, 51, 52, 53, 54, 55, 56, 57]⟩
theorem dig_cut (q : Int) (h0 : 0 ≤ q) (h1 : q < 10) : digs10.extract q.toNat (q + 1).toNat = dig q.toNat := by
  have : ∀ i : Fin 10, digs10.extract i.val (i.val + 1) = dig i.val := by decide +kernel
  have h := this ⟨q.toNat, by omega⟩
  rw [show (q + 1).toNat = q.toNat + 1 by omega]
  exact h
theorem dig_cut2 (q : Int) (h0 : 10 ≤ q) (h1 : q < 1000) : dig (q / 10).toNat ++ digs10.extract (q % 10).toNat (q % 10 + 1).toNat = dig q.toNat := by
  have : ∀ i : Fin 1000, 10 ≤ i.val → dig (i.val / 10) ++ digs10.extract (i.val % 10) (i.val % 10 + 1) = dig i.val := by decide +kernel
  have h := this ⟨q.toNat, by omega⟩ (by show 10 ≤ q.toNat; omega)
  rw [show (q / 10).toNat = q.toNat / 10 by omega, show (q % 10 + 1).toNat = q.toNat % 10 + 1 by omega, show (q % 10).toNat = q.toNat % 10 by omega]
  exact h
theorem cut_lit (l : ByteArray) (i j : Int) (h0 : 0 ≤ i) (h1 : i ≤ j) (h2 : j ≤ l.size) (w : World) : (Instr.slice 9 (.string l) (some (.int .i64 i)) (some (.int .i64 j)) none).run Tryd.prog w = .ok (.string (l.extract i.toNat j.toNat)) w :=
  run_slice_string _ _ _ _ _ _ _ Tryd.underlying9 h0 h1 h2

set_option maxHeartbeats 1000000 in
theorem dig_lo (q : Int) (h0 : 0 ≤ q) (h1 : q < 10) (w : World) :
    Calls Tryd.prog 9 #[.int .i64 q] w fun e w' => e = .returned (.string (dig q.toNat)) ∧ w' = w := by
  have HD := Lib.hid (dig_cut q h0 h1)
  have hs := cut_lit ⟨#[48, 49, 50, 51, 52, 53, 54, 55, 56, 57]⟩ q (q + 1) h0 (by omega) (by show q + 1 ≤ ((10 : Nat) : Int); omega)
  go_enter Tryd.func9, Tryd.ntmps9
  go_wp2
  go_ret
  exact ⟨by rw [← HD.out]; rfl, rfl⟩
set_option maxHeartbeats 1000000 in
theorem dig_mid (q : Int) (h0 : 10 ≤ q) (h1 : q < 100) (w : World) :
    Calls Tryd.prog 9 #[.int .i64 q] w fun e w' => e = .returned (.string (dig q.toNat)) ∧ ∃ m, w' = w.drewN m := by
  have HD := Lib.hid (dig_cut2 q h0 (by omega))
  have hq0 : 0 ≤ q / 10 := by omega
  have hq1 : q / 10 < 10 := by omega
  have hr0 : 0 ≤ q % 10 := by omega
  have hr1 : q % 10 < 10 := by omega
  have w1 : IntKind.i64.wrap (q.tdiv 10) = q / 10 := by rw [Int.tdiv_eq_ediv_of_nonneg (by omega)]; exact IntWalk.i64_in _ (by omega)
  have w2 : q.tmod 10 = q % 10 := Int.tmod_eq_emod_of_nonneg (by omega)
  have hs := cut_lit ⟨#[48, 49, 50, 51, 52, 53, 54, 55, 56, 57]⟩ (q % 10) (q % 10 + 1) hr0 (by omega) (by show q % 10 + 1 ≤ ((10 : Nat) : Int); omega)
  have hds := (dig_size (q / 10).toNat).1
  have b1 : (9223372036854775807 < (dig (q / 10).toNat).size + ((⟨#[48, 49, 50, 51, 52, 53, 54, 55, 56, 57]⟩ : ByteArray).extract (q % 10).toNat (q % 10 + 1).toNat).size) = False := eq_false (by rw [ByteArray.size_extract]; have l_ : (⟨#[48, 49, 50, 51, 52, 53, 54, 55, 56, 57]⟩ : ByteArray).size = 10 := rfl; omega)
  have b2 : (9223372036854775807 < (dig (q / 10).toNat).size + ((q % 10 + 1).toNat - (q % 10).toNat)) = False := eq_false (by omega)
  have b3 : (9223372036854775807 < (dig (q / 10).toNat).size + (min (q % 10 + 1).toNat 10 - (q % 10).toNat)) = False := eq_false (by omega)
  have w3 : IntKind.i64.wrap (q % 10 + 1) = q % 10 + 1 := IntWalk.i64_in _ (by omega)
  go_enter Tryd.func9, Tryd.ntmps9
  go_wp2
  go_quiet ((go_at_call 9; exact Calls.quiet_of_same (dig_lo _ hq0 hq1 _)))
  go_wp2
  go_ret
  exact ⟨by rw [← HD.out]; rfl, nq, rfl⟩
set_option maxHeartbeats 1000000 in
theorem dig_hi (q : Int) (h0 : 100 ≤ q) (h1 : q < 1000) (w : World) :
    Calls Tryd.prog 9 #[.int .i64 q] w fun e w' => e = .returned (.string (dig q.toNat)) ∧ ∃ m, w' = w.drewN m := by
  have HD := Lib.hid (dig_cut2 q (by omega) h1)
  have hq0 : 10 ≤ q / 10 := by omega
  have hq1 : q / 10 < 100 := by omega
  have hr0 : 0 ≤ q % 10 := by omega
  have hr1 : q % 10 < 10 := by omega
  have w1 : IntKind.i64.wrap (q.tdiv 10) = q / 10 := by rw [Int.tdiv_eq_ediv_of_nonneg (by omega)]; exact IntWalk.i64_in _ (by omega)
  have w2 : q.tmod 10 = q % 10 := Int.tmod_eq_emod_of_nonneg (by omega)
  have hs := cut_lit ⟨#[48, 49, 50, 51, 52, 53, 54, 55, 56, 57]⟩ (q % 10) (q % 10 + 1) hr0 (by omega) (by show q % 10 + 1 ≤ ((10 : Nat) : Int); omega)
  have hds := (dig_size (q / 10).toNat).1
  have b1 : (9223372036854775807 < (dig (q / 10).toNat).size + ((⟨#[48, 49, 50, 51, 52, 53, 54, 55, 56, 57]⟩ : ByteArray).extract (q % 10).toNat (q % 10 + 1).toNat).size) = False := eq_false (by rw [ByteArray.size_extract]; have l_ : (⟨#[48, 49, 50, 51, 52, 53, 54, 55, 56, 57]⟩ : ByteArray).size = 10 := rfl; omega)
  have b2 : (9223372036854775807 < (dig (q / 10).toNat).size + ((q % 10 + 1).toNat - (q % 10).toNat)) = False := eq_false (by omega)
  have b3 : (9223372036854775807 < (dig (q / 10).toNat).size + (min (q % 10 + 1).toNat 10 - (q % 10).toNat)) = False := eq_false (by omega)
  have w3 : IntKind.i64.wrap (q % 10 + 1) = q % 10 + 1 := IntWalk.i64_in _ (by omega)
  go_enter Tryd.func9, Tryd.ntmps9
  go_wp2
  go_quiet ((go_at_call 9; exact Calls.quiet_of (dig_mid _ hq0 hq1 _)))
  go_wp2
  go_ret
  exact ⟨by rw [← HD.out]; rfl, nq, rfl⟩

theorem dig_quiet (i : Nat) (h : i < 1000) (w : World) :
    Calls Tryd.prog 9 #[.int .i64 i] w fun e w' => e = .returned (.string (dig i)) ∧ ∃ m, w' = w.drewN m := by
  by_cases h1 : i < 10
  · exact (dig_lo i (by omega) (by omega) w).mono fun e w' ⟨he, hw⟩ => ⟨he, 0, hw⟩
  · by_cases h2 : i < 100
    · exact dig_mid i (by omega) (by omega) w
    · exact dig_hi i (by omega) (by omega) w
theorem dig_calls (i : Nat) (h : i < 1000) (w : World) :
    Calls Tryd.prog 9 #[.int .i64 i] w fun e w' => e = .returned (.string (dig i)) ∧ Below w.heap.size w w' := by
  refine (dig_quiet i h w).mono ?_
  rintro e w' ⟨rfl, m, rfl⟩
  exact ⟨rfl, rfl, rfl, rfl, Nat.le_refl _, fun _ _ => rfl⟩

/-! ### Word -/
theorem word_at : ∀ t : Nat, t < 16 → ∃ s : ByteArray, s.size ≤ 9 ∧ ∀ w, (Instr.index 68 (.agg #[.string ⟨#[97]⟩, .string ⟨#[98]⟩, .string ⟨#[99]⟩, .string ⟨#[97, 46, 99]⟩, .string ⟨#[98, 46, 99]⟩, .string ⟨#[120, 46, 111]⟩, .string ⟨#[100, 105, 114, 47, 97, 46, 99]⟩, .string ⟨#[46, 46, 47, 117, 112]⟩, .string ⟨#[50]⟩, .string ⟨#[45, 49]⟩, .string ⟨#[102, 111, 111]⟩, .string ⟨#[102, 111, 111, 46, 98, 97, 114, 46, 99]⟩, .string ⟨#[108, 105, 98, 37]⟩, .string ⟨#[97, 37, 98]⟩, .string ⟨#[49, 48]⟩, .string ⟨#[122]⟩]) (.int .i64 (t : Int))).run Tryd.prog w = .ok (.string s) w
  | 0, _ => ⟨⟨#[97]⟩, by decide, fun _ => by kernel_rfl⟩
  | 1, _ => ⟨⟨#[98]⟩, by decide, fun _ => by kernel_rfl⟩
  | 2, _ => ⟨⟨#[99]⟩, by decide, fun _ => by kernel_rfl⟩
  | 3, _ => ⟨⟨#[97, 46, 99]⟩, by decide, fun _ => by kernel_rfl⟩
  | 4, _ => ⟨⟨#[98, 46, 99]⟩, by decide, fun _ => by kernel_rfl⟩
  | 5, _ => ⟨⟨#[120, 46, 111]⟩, by decide, fun _ => by kernel_rfl⟩
  | 6, _ => ⟨⟨#[100, 105, 114, 47, 97, 46, 99]⟩, by decide, fun _ => by kernel_rfl⟩
  | 7, _ => ⟨⟨#[46, 46, 47, 117, 112]⟩, by decide, fun _ => by kernel_rfl⟩
  | 8, _ => ⟨⟨#[50]⟩, by decide, fun _ => by kernel_rfl⟩
  | 9, _ => ⟨⟨#[45, 49]⟩, by decide, fun _ => by kernel_rfl⟩
  | 10, _ => ⟨⟨#[102, 111, 111]⟩, by decide, fun _ => by kernel_rfl⟩
  | 11, _ => ⟨⟨#[102, 111, 111, 46, 98, 97, 114, 46, 99]⟩, by decide, fun _ => by kernel_rfl⟩
  | 12, _ => ⟨⟨#[108, 105, 98, 37]⟩, by decide, fun _ => by kernel_rfl⟩
  | 13, _ => ⟨⟨#[97, 37, 98]⟩, by decide, fun _ => by kernel_rfl⟩
  | 14, _ => ⟨⟨#[49, 48]⟩, by decide, fun _ => by kernel_rfl⟩
  | 15, _ => ⟨⟨#[122]⟩, by decide, fun _ => by kernel_rfl⟩
  | n + 16, h => absurd h (by omega)

set_option maxHeartbeats 1000000 in
theorem word_calls (v : Int) (w : World) : Calls Tryd.prog 19 #[.int .i64 v] w fun e w' => ∃ s : ByteArray, e = .returned (.string s) ∧ s.size ≤ 9 ∧ w = w' := by
  go_enter Tryd.func19, Tryd.ntmps19
  go_wp2_with (go_at_call 8; refine (place_any v 16 (by decide) (by decide) _).mono ?_; rintro e w1 ⟨t, ht, rfl, rfl⟩; obtain ⟨s, hs, hix⟩ := word_at t (by omega))
  go_ret
  exact ⟨s, rfl, hs, rfl⟩
end Go.Proofs.YtjmaficiinhjpaaDoor.G
