/- memo: Digits of a small number changes nothing in memory. -/
import Derived.Test.YtabdjijlmiobhaaMemoStep
import Derived.IntWalk
namespace Go.Proofs.Ytabdjijlmiobhaa.G
open Go.RowKit Go.Maps Go.Sort

def digs10 : ByteArray := ⟨#[48, 49, 50, 51, 52, 53, 54, 55, 56, 57]⟩
theorem dig_cut (q : Int) (h0 : 0 ≤ q) (h1 : q < 10) : digs10.extract q.toNat (q + 1).toNat = dig q.toNat := by
  have : ∀ i : Fin 10, digs10.extract i.val (i.val + 1) = dig i.val := by decide +kernel
  have h := this ⟨q.toNat, by omega⟩
  rw [show (q + 1).toNat = q.toNat + 1 by omega]
  exact h
theorem dig_cut2 (q : Int) (h0 : 10 ≤ q) (h1 : q < 120) : dig (q / 10).toNat ++ digs10.extract (q % 10).toNat (q % 10 + 1).toNat = dig q.toNat := by
  have : ∀ i : Fin 120, 10 ≤ i.val → dig (i.val / 10) ++ digs10.extract (i.val % 10) (i.val % 10 + 1) = dig i.val := by decide +kernel
  have h := this ⟨q.toNat, by omega⟩ (by show 10 ≤ q.toNat; omega)
  rw [show (q / 10).toNat = q.toNat / 10 by omega, show (q % 10 + 1).toNat = q.toNat % 10 + 1 by omega, show (q % 10).toNat = q.toNat % 10 by omega]
  exact h
attribute [local irreducible] dig
theorem cut_lit (l : ByteArray) (i j : Int) (h0 : 0 ≤ i) (h1 : i ≤ j) (h2 : j ≤ l.size) (w : World) : (Instr.slice 9 (.string l) (some (.int .i64 i)) (some (.int .i64 j)) none).run Try.prog w = .ok (.string (l.extract i.toNat j.toNat)) w :=
  run_slice_string _ _ _ _ _ _ _ Try.underlying9 h0 h1 h2

set_option maxHeartbeats 1000000 in
theorem dig_lo (q : Int) (h0 : 0 ≤ q) (h1 : q < 10) (w : World) :
    Calls Try.prog 17 #[.int .i64 q] w fun e w' => e = .returned (.string (dig q.toNat)) ∧ w' = w := by
  have HD := Lib.hid (dig_cut q h0 h1)
  have hs := cut_lit ⟨#[48, 49, 50, 51, 52, 53, 54, 55, 56, 57]⟩ q (q + 1) h0 (by omega) (by show q + 1 ≤ ((10 : Nat) : Int); omega)
  go_enter Try.func17, Try.ntmps17
  go_wp2
  go_ret
  exact ⟨by rw [← HD.out]; rfl, rfl⟩
set_option maxHeartbeats 1000000 in
theorem dig_mid (q : Int) (h0 : 10 ≤ q) (h1 : q < 100) (w : World) :
    Calls Try.prog 17 #[.int .i64 q] w fun e w' => e = .returned (.string (dig q.toNat)) ∧ ∃ m, w' = w.drewN m := by
  have HD := Lib.hid (dig_cut2 q h0 (by omega))
  have hq0 : 0 ≤ q / 10 := by omega
  have hq1 : q / 10 < 10 := by omega
  have hr0 : 0 ≤ q % 10 := by omega
  have hr1 : q % 10 < 10 := by omega
  have w1 : IntKind.i64.wrap (q.tdiv 10) = q / 10 := by rw [Int.tdiv_eq_ediv_of_nonneg (by omega)]; exact IntWalk.i64_in _ (by omega)
  have w2 : q.tmod 10 = q % 10 := Int.tmod_eq_emod_of_nonneg (by omega)
  have hs := cut_lit ⟨#[48, 49, 50, 51, 52, 53, 54, 55, 56, 57]⟩ (q % 10) (q % 10 + 1) hr0 (by omega) (by show q % 10 + 1 ≤ ((10 : Nat) : Int); omega)
  have hds := dig_size (q / 10).toNat (by omega)
  have b1 : (9223372036854775807 < (dig (q / 10).toNat).size + ((⟨#[48, 49, 50, 51, 52, 53, 54, 55, 56, 57]⟩ : ByteArray).extract (q % 10).toNat (q % 10 + 1).toNat).size) = False := eq_false (by rw [ByteArray.size_extract]; have l_ : (⟨#[48, 49, 50, 51, 52, 53, 54, 55, 56, 57]⟩ : ByteArray).size = 10 := rfl; omega)
  have b2 : (9223372036854775807 < (dig (q / 10).toNat).size + ((q % 10 + 1).toNat - (q % 10).toNat)) = False := eq_false (by omega)
  have b3 : (9223372036854775807 < (dig (q / 10).toNat).size + (min (q % 10 + 1).toNat 10 - (q % 10).toNat)) = False := eq_false (by omega)
  have w3 : IntKind.i64.wrap (q % 10 + 1) = q % 10 + 1 := IntWalk.i64_in _ (by omega)
  go_enter Try.func17, Try.ntmps17
  go_wp2
  go_quiet ((go_at_call 17; exact Calls.quiet_of_same (dig_lo _ hq0 hq1 _)))
  go_wp2
  go_ret
  exact ⟨by rw [← HD.out]; rfl, nq, rfl⟩
set_option maxHeartbeats 1000000 in
theorem dig_hi (q : Int) (h0 : 100 ≤ q) (h1 : q < 120) (w : World) :
    Calls Try.prog 17 #[.int .i64 q] w fun e w' => e = .returned (.string (dig q.toNat)) ∧ ∃ m, w' = w.drewN m := by
  have HD := Lib.hid (dig_cut2 q (by omega) h1)
  have hq0 : 10 ≤ q / 10 := by omega
  have hq1 : q / 10 < 100 := by omega
  have hr0 : 0 ≤ q % 10 := by omega
  have hr1 : q % 10 < 10 := by omega
  have w1 : IntKind.i64.wrap (q.tdiv 10) = q / 10 := by rw [Int.tdiv_eq_ediv_of_nonneg (by omega)]; exact IntWalk.i64_in _ (by omega)
  have w2 : q.tmod 10 = q % 10 := Int.tmod_eq_emod_of_nonneg (by omega)
  have hs := cut_lit ⟨#[48, 49, 50, 51, 52, 53, 54, 55, 56, 57]⟩ (q % 10) (q % 10 + 1) hr0 (by omega) (by show q % 10 + 1 ≤ ((10 : Nat) : Int); omega)
  have hds := dig_size (q / 10).toNat (by omega)
  have b1 : (9223372036854775807 < (dig (q / 10).toNat).size + ((⟨#[48, 49, 50, 51, 52, 53, 54, 55, 56, 57]⟩ : ByteArray).extract (q % 10).toNat (q % 10 + 1).toNat).size) = False := eq_false (by rw [ByteArray.size_extract]; have l_ : (⟨#[48, 49, 50, 51, 52, 53, 54, 55, 56, 57]⟩ : ByteArray).size = 10 := rfl; omega)
  have b2 : (9223372036854775807 < (dig (q / 10).toNat).size + ((q % 10 + 1).toNat - (q % 10).toNat)) = False := eq_false (by omega)
  have b3 : (9223372036854775807 < (dig (q / 10).toNat).size + (min (q % 10 + 1).toNat 10 - (q % 10).toNat)) = False := eq_false (by omega)
  have w3 : IntKind.i64.wrap (q % 10 + 1) = q % 10 + 1 := IntWalk.i64_in _ (by omega)
  go_enter Try.func17, Try.ntmps17
  go_wp2
  go_quiet ((go_at_call 17; exact Calls.quiet_of (dig_mid _ hq0 hq1 _)))
  go_wp2
  go_ret
  exact ⟨by rw [← HD.out]; rfl, nq, rfl⟩

theorem dig_quiet (i : Nat) (h : i < 120) (w : World) :
    Calls Try.prog 17 #[.int .i64 i] w fun e w' => e = .returned (.string (dig i)) ∧ ∃ m, w' = w.drewN m := by
  by_cases h1 : i < 10
  · exact (dig_lo i (by omega) (by omega) w).mono fun e w' ⟨he, hw⟩ => ⟨he, 0, hw⟩
  · by_cases h2 : i < 100
    · exact dig_mid i (by omega) (by omega) w
    · exact dig_hi i (by omega) (by omega) w
theorem dig_both {bo : Option (Nat × Obj)} {base : Nat} {w0 w : World} {cb rb n : Nat} {M h h' : Int} {E E' : List Ent} {bm : Nat} (hB : Both bo base w0 w cb rb n M h h' E E' bm) (i : Nat) (hi : i < 120) :
    Calls Try.prog 17 #[.int .i64 i] w fun e w' => e = .returned (.string (dig i)) ∧ Both bo base w0 w' cb rb n M h h' E E' bm := by
  refine (P1.wainwrightlaw00_Digits.calls 5 (i : Int) (dig i) w (dig_is i hi)).mono ?_
  rintro e w' ⟨rfl, hb⟩
  exact ⟨rfl, hB.later hb⟩
theorem awake_both {bo : Option (Nat × Obj)} {base : Nat} {w0 w : World} {cb rb n : Nat} {M h h' : Int} {E E' : List Ent} {bm : Nat} (hB : Both bo base w0 w cb rb n M h h' E E' bm) :
    Calls Try.prog 14 #[] w fun e w' => e = .returned (.bool true) ∧ Both bo base w0 w' cb rb n M h h' E E' bm := by
  refine (awake.calls w).mono ?_
  rintro e w' ⟨rfl, hb⟩
  exact ⟨rfl, hB.later hb⟩
set_option maxHeartbeats 1000000 in
theorem rnew_calls (m : Int) (w : World) : Calls Try.prog 13 #[.int .i64 m] w fun e w' => e = .returned (.pointer (some ⟨w.heap.size, 0, none⟩)) ∧ w' = w.alloc (.cells #[.int .i64 (min (max m 0) 1000), .slice none 0 0, .int .i64 0] 63) := by
  go_enter Try.func13, Try.ntmps13
  go_wp2
  go_ret
  exact ⟨rfl, rfl⟩
theorem rnew_both {base : Nat} {w0 w : World} {cb n : Nat} {M h : Int} {bm : Nat} (hA : At base w0 w cb n M h [] bm) (m : Int) (hm : max 0 (min m 1000) = M) :
    Calls Try.prog 13 #[.int .i64 m] w fun e w' => ∃ rb, e = .returned (.pointer (some ⟨rb, 0, none⟩)) ∧ Both none base w0 w' cb rb n M h 0 [] [] bm := by
  obtain ⟨⟨v, hC⟩, h0⟩ := hA
  refine (rnew_calls m w).mono ?_
  rintro e w' ⟨rfl, rfl⟩
  have hM : min (max m 0) 1000 = M := by omega
  rw [hM]
  have hb := heap_alloc_new w (Obj.cells #[Value.int .i64 M, Value.slice none 0 0, Value.int .i64 0] 63)
  refine ⟨_, rfl, v, .slice none 0 0, hC.alloc _, ⟨?_, ?_, ?_, frozen_of_block hb, frozen_of_block hb, Or.inl ⟨rfl, rfl⟩, hC.hz, by simp, fun k hk => absurd hk (by simp [Value.ownBlock]), by simp⟩, fun k hk hr => ?_, h0.alloc hC.hz _, fun b o e => absurd e (by simp)⟩
  · rw [cell_of_block hb]; rfl
  · rw [cell_of_block hb]; rfl
  · rw [cell_of_block hb]; rfl
  · rcases hr with hr | hr
    · subst hr; exact Nat.lt_irrefl _ (hC.footz _ hk).2
    · exact absurd hr (by simp [Value.ownBlock])
end Go.Proofs.Ytabdjijlmiobhaa.G
