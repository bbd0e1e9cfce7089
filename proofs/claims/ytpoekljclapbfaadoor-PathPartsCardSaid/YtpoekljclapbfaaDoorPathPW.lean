/- The law PathParts: its walk. -/
import Derived.Test.YtpoekljclapbfaaDoorPathPlain2
import Derived.Test.YtpoekljclapbfaaDoorPathAllW
namespace Go.Proofs.YtpoekljclapbfaaDoor.G
open Go.RowKit
set_option linter.unusedVariables false

theorem rem_neg (a n : Int) (h0 : 0 < n) (h : a.tmod n < 0) : a.tmod n + n = a % n := by
  have h1 := Int.tmod_lt_of_pos a h0
  have h2 := Int.lt_tmod_of_pos a h0
  have h3 := Int.emod_nonneg a (show n ≠ 0 by omega)
  have h4 := Int.emod_lt_of_pos a h0
  rw [Int.tmod_eq_emod] at h ⊢
  split at h
  · omega
  · rename_i hc
    rw [if_neg hc]
    have : (n.natAbs : Int) = n := by omega
    omega
theorem rem_pos (a n : Int) (h0 : 0 < n) (h : 0 ≤ a.tmod n) : a.tmod n = a % n := by
  have h3 := Int.emod_nonneg a (show n ≠ 0 by omega)
  have h4 := Int.emod_lt_of_pos a h0
  rw [Int.tmod_eq_emod] at h ⊢
  split at h
  · rename_i hc
    rw [if_pos hc]; omega
  · rename_i hc
    have : (n.natAbs : Int) = n := by omega
    omega
set_option maxHeartbeats 4000000 in
set_option maxRecDepth 100000 in
theorem place_at (a n : Int) (w : World) (ha : (Lit.int .i64 a).wf = true) (h0 : 0 < n) (h1 : n ≤ 4611686018427387904) : Calls Tryd.prog 18 #[.int .i64 a, .int .i64 n] w fun e w' => e = .returned (.int .i64 (a % n)) ∧ w' = w := by
  have hneg := rem_neg a n h0
  have hpos := rem_pos a n h0
  have g1 := Int.emod_nonneg a (show n ≠ 0 by omega)
  have g2 := Int.emod_lt_of_pos a h0
  go_enter Tryd.func18, Tryd.ntmps18
  go_wp2
  all_goals (rename_i h; refine bodyPost_ret (results_tmp rfl _ _ _) rfl ?_; first | exact ⟨rfl, rfl⟩ | exact ⟨by rw [hpos h]; rfl, rfl⟩)
theorem place_seven (a : Int) (ha : (Lit.int .i64 a).wf = true) (w : World) : Calls Tryd.prog 18 #[.int .i64 a, .int .i64 7] w fun e w' => ∃ t : Nat, t < 7 ∧ e = .returned (.int .i64 t) ∧ w' = w := by
  refine (place_at a 7 w ha (by decide) (by decide)).mono ?_
  rintro e w' ⟨rfl, rfl⟩
  refine ⟨(a % 7).toNat, by omega, ?_, rfl⟩
  rw [Int.toNat_of_nonneg (by omega)]

theorem pile_slash' {s p : ByteArray} {pl : List ByteArray} (h : pileB (partsB s) = pl) (hp : NoSl p.data.toList) : pileB (partsB (s ++ ⟨#[47]⟩ ++ p)) = stepB pl p := by rw [pile_slash s p hp, h]
theorem pile_none' {s p : ByteArray} {pl : List ByteArray} (h : pileB (partsB s) = pl) (hs : s = ⟨#[]⟩) (hp : NoSl p.data.toList) : pileB (partsB (s ++ p)) = stepB pl p := by
  subst hs
  rw [pile_none p hp, ← h, parts_nil]
  rfl
theorem sz1 {s p : ByteArray} {n : Int} (hp : p.size ≤ 5) (h : (s.size : Int) ≤ 6 * n) : ((s ++ ⟨#[47]⟩ ++ p).size : Int) ≤ 6 * (n + 1) := by
  rw [ByteArray.size_append, ByteArray.size_append]
  have : (⟨#[47]⟩ : ByteArray).size = 1 := rfl
  omega
theorem sz2 {s p : ByteArray} {n : Int} (hp : p.size ≤ 5) (h : (s.size : Int) ≤ 6 * n) : ((s ++ p).size : Int) ≤ 6 * (n + 1) := by
  rw [ByteArray.size_append]
  omega
theorem none_is {t : ByteArray} (h : t.toList = []) : t = ⟨#[]⟩ := bytes_inj' (by rw [← ByteArray.toList_eq, h])
theorem none_of {t : ByteArray} (h : (!t.toList.isEmpty) = false) : t = ⟨#[]⟩ := none_is (by simpa using h)
theorem str_same {a b : ByteArray} (h : (a.toList == b.toList) = true) : a = b := by
  rw [ByteArray.toList_eq, ByteArray.toList_eq, beq_iff_eq] at h
  exact bytes_inj' h
theorem ix0 (w : World) : (Instr.index 27 (.agg #[.string ⟨#[97]⟩, .string ⟨#[98, 46, 99]⟩, .string ⟨#[46, 46]⟩, .string ⟨#[46]⟩, .string ⟨#[]⟩, .string ⟨#[100]⟩, .string ⟨#[101, 46, 102, 46, 103]⟩]) (.int .i64 0)).run Tryd.prog w = .ok (.string ⟨#[97]⟩) w := by kernel_rfl
theorem ix1 (w : World) : (Instr.index 27 (.agg #[.string ⟨#[97]⟩, .string ⟨#[98, 46, 99]⟩, .string ⟨#[46, 46]⟩, .string ⟨#[46]⟩, .string ⟨#[]⟩, .string ⟨#[100]⟩, .string ⟨#[101, 46, 102, 46, 103]⟩]) (.int .i64 1)).run Tryd.prog w = .ok (.string ⟨#[98, 46, 99]⟩) w := by kernel_rfl
theorem ix2 (w : World) : (Instr.index 27 (.agg #[.string ⟨#[97]⟩, .string ⟨#[98, 46, 99]⟩, .string ⟨#[46, 46]⟩, .string ⟨#[46]⟩, .string ⟨#[]⟩, .string ⟨#[100]⟩, .string ⟨#[101, 46, 102, 46, 103]⟩]) (.int .i64 2)).run Tryd.prog w = .ok (.string ⟨#[46, 46]⟩) w := by kernel_rfl
theorem ix3 (w : World) : (Instr.index 27 (.agg #[.string ⟨#[97]⟩, .string ⟨#[98, 46, 99]⟩, .string ⟨#[46, 46]⟩, .string ⟨#[46]⟩, .string ⟨#[]⟩, .string ⟨#[100]⟩, .string ⟨#[101, 46, 102, 46, 103]⟩]) (.int .i64 3)).run Tryd.prog w = .ok (.string ⟨#[46]⟩) w := by kernel_rfl
theorem ix4 (w : World) : (Instr.index 27 (.agg #[.string ⟨#[97]⟩, .string ⟨#[98, 46, 99]⟩, .string ⟨#[46, 46]⟩, .string ⟨#[46]⟩, .string ⟨#[]⟩, .string ⟨#[100]⟩, .string ⟨#[101, 46, 102, 46, 103]⟩]) (.int .i64 4)).run Tryd.prog w = .ok (.string ⟨#[]⟩) w := by kernel_rfl
theorem ix5 (w : World) : (Instr.index 27 (.agg #[.string ⟨#[97]⟩, .string ⟨#[98, 46, 99]⟩, .string ⟨#[46, 46]⟩, .string ⟨#[46]⟩, .string ⟨#[]⟩, .string ⟨#[100]⟩, .string ⟨#[101, 46, 102, 46, 103]⟩]) (.int .i64 5)).run Tryd.prog w = .ok (.string ⟨#[100]⟩) w := by kernel_rfl
theorem ix6 (w : World) : (Instr.index 27 (.agg #[.string ⟨#[97]⟩, .string ⟨#[98, 46, 99]⟩, .string ⟨#[46, 46]⟩, .string ⟨#[46]⟩, .string ⟨#[]⟩, .string ⟨#[100]⟩, .string ⟨#[101, 46, 102, 46, 103]⟩]) (.int .i64 6)).run Tryd.prog w = .ok (.string ⟨#[101, 46, 102, 46, 103]⟩) w := by kernel_rfl
end Go.Proofs.YtpoekljclapbfaaDoor.G
