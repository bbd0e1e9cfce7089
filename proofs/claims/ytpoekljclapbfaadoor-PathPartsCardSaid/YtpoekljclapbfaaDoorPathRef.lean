/- The reference's slash, Dir, Notdir, Suffix, Base: the walks of their code: they answer as path's. -/
import Derived.Test.YtpoekljclapbfaaDoorPathFns
namespace Go.Proofs.YtpoekljclapbfaaDoor.G
open Go.RowKit
set_option linter.unusedVariables false

theorem last_step (s : ByteArray) (c : Int) (k : Nat) (h : k < s.size) : Lib.lastIdx s c (k + 1) = if (((s[k]'h).toNat : Int) == c) = true then (k : Int) else Lib.lastIdx s c k := by
  rw [Lib.lastIdx, getElem!_pos s.data k h]
  simp only [beq_iff_eq]
  rfl

set_option maxHeartbeats 1000000 in
set_option maxRecDepth 100000 in
theorem ref_slash (s : ByteArray) (hs : s.size ≤ 1000000) (w : World) : Calls Tryd.prog 21 #[.string s] w fun e w' => e = .returned (.int .i64 (slashN s)) ∧ w' = w := by
  have HC := Lib.hid (slash_cast s)
  go_enter Tryd.func21, Tryd.ntmps21
  go_wp2
  go_loopw [3, 4] (fun v3 v4 wr => ∃ i : Nat, i ≤ s.size ∧ v4 = .int .i64 i ∧ v3 = .int .i64 (Lib.lastIdx s 47 i + 1) ∧ wr = w) (fun _ i _ => s.size - (intOf i).toNat)
  case atStart => exact ⟨0, Nat.zero_le _, rfl, rfl, rfl⟩
  case round =>
    obtain ⟨i, hi, rfl, rfl, rfl⟩ := hrel
    have h1 := last_le s 47 i
    by_cases hlt : i < s.size
    · have HL := Lib.hid (last_step s 47 i hlt)
      go_wp2
      · refine ⟨⟨i + 1, by omega, by go_num, ?_, trivial⟩, by simp [intOf]; omega⟩
        rw [HL.out, if_pos ‹_ = true›]
      · refine ⟨⟨i + 1, by omega, by go_num, ?_, trivial⟩, by simp [intOf]; omega⟩
        rw [HL.out, if_neg (by rw [‹(_ == (47 : Int)) = false›]; decide)]
    · obtain rfl : i = s.size := by omega
      go_wp2
      go_ret
      refine ⟨?_, rfl⟩
      rw [HC.out]
      rfl
theorem ref_Dir (s : ByteArray) (hs : s.size ≤ 1000000) (w : World) : Calls Tryd.prog 9 #[.string s] w fun e w' => e = .returned (.string (dirB s)) ∧ w' = w := by
  have HD := Lib.hid (show dirB s = if 0 < slashN s then s.extract 0 (slashN s) else ⟨#[46, 47]⟩ from rfl)
  have hle := slash_le s
  have HC := Lib.hid (ref_slash s hs w)
  obtain ⟨n, hn⟩ : ∃ n, slashN s = n := ⟨_, rfl⟩
  rw [hn] at HD hle HC
  clear hn
  go_enter Tryd.func9, Tryd.ntmps9
  rcases Nat.eq_zero_or_pos n with rfl | hn
  · go_wp2_with (go_at_call 21; refine HC.out.mono ?_; rintro e w1 ⟨rfl, rfl⟩)
    go_ret
    exact ⟨by rw [HD.out, if_neg (by decide)]; rfl, rfl⟩
  · go_wp2_with (go_at_call 21; refine HC.out.mono ?_; rintro e w1 ⟨rfl, rfl⟩)
    go_ret
    exact ⟨by rw [HD.out, if_pos hn]; rfl, rfl⟩
theorem ref_Notdir (s : ByteArray) (hs : s.size ≤ 1000000) (w : World) : Calls Tryd.prog 11 #[.string s] w fun e w' => e = .returned (.string (notdirB s)) ∧ w' = w := by
  have HD := Lib.hid (show notdirB s = s.extract (slashN s) s.size from rfl)
  have hle := slash_le s
  have HC := Lib.hid (ref_slash s hs w)
  obtain ⟨n, hn⟩ : ∃ n, slashN s = n := ⟨_, rfl⟩
  rw [hn] at HD hle HC
  clear hn
  go_enter Tryd.func11, Tryd.ntmps11
  go_wp2_with (go_at_call 21; refine HC.out.mono ?_; rintro e w1 ⟨rfl, rfl⟩)
  go_ret
  refine ⟨?_, rfl⟩
  rw [HD.out]
  rfl
set_option maxHeartbeats 1000000 in
set_option maxRecDepth 100000 in
theorem ref_Suffix (s : ByteArray) (hs : s.size ≤ 1000000) (w : World) : Calls Tryd.prog 13 #[.string s] w fun e w' => e = .returned (.string (sufB s)) ∧ w' = w := by
  have HC := Lib.hid (ref_Notdir s hs w)
  have hle := notdir_size s
  have HS : Hid (sufB s = tailB (notdirB s)) := Lib.hid rfl
  obtain ⟨t, ht⟩ : ∃ t, notdirB s = t := ⟨_, rfl⟩
  rw [ht] at HC hle HS
  clear ht
  have HD := Lib.hid (show tailB t = if 0 ≤ Lib.lastIndexByte t 46 then t.extract (Lib.lastIndexByte t 46).toNat t.size else ⟨#[]⟩ from rfl)
  go_enter Tryd.func13, Tryd.ntmps13
  go_wp2_with (go_at_call 11; refine HC.out.mono ?_; rintro e w1 ⟨rfl, rfl⟩)
  go_loopw [4] (fun v4 wr => ∃ n : Int, -1 ≤ n ∧ n < t.size ∧ v4 = .int .i64 n ∧ Lib.lastIndexByte t 46 = Lib.lastIdx t 46 (n + 1).toNat ∧ wr = w1) (fun i _ => (intOf i + 1).toNat)
  case atStart => exact ⟨_, by omega, by omega, rfl, by unfold Lib.lastIndexByte; congr 1; omega, rfl⟩
  case round =>
    obtain ⟨n, h1, h2, rfl, hl, rfl⟩ := hrel
    have HLI := Lib.hid hl
    clear hl
    by_cases hlt : 0 ≤ n
    · obtain ⟨i, rfl⟩ : ∃ i : Nat, n = i := ⟨n.toNat, by omega⟩
      have HL := Lib.hid (last_step t 46 i (by omega))
      rw [show ((i : Int) + 1).toNat = i + 1 by omega] at HLI
      go_wp2
      · go_ret
        refine ⟨?_, rfl⟩
        rw [HS.out, HD.out, HLI.out, HL.out, if_pos ‹_ = true›, if_pos (by omega)]
        rfl
      · refine ⟨⟨_, by omega, by omega, rfl, ?_, trivial⟩, by simp [intOf]⟩
        rw [HLI.out, HL.out, if_neg (by rw [‹(_ == (46 : Int)) = false›]; decide)]
        congr 1
        omega
    · obtain rfl : n = -1 := by omega
      go_wp2
      go_ret
      refine ⟨?_, rfl⟩
      rw [HS.out, HD.out, HLI.out, show ((-1 : Int) + 1).toNat = 0 from rfl, Lib.lastIdx, if_neg (by decide)]
      rfl
theorem ref_Base (s : ByteArray) (hs : s.size ≤ 1000000) (w : World) : Calls Tryd.prog 15 #[.string s] w fun e w' => e = .returned (.string (baseB s)) ∧ w' = w := by
  have HC := Lib.hid (ref_Suffix s hs w)
  have hle := suf_size s
  have HD := Lib.hid (show baseB s = s.extract 0 (s.size - (sufB s).size) from rfl)
  obtain ⟨t, ht⟩ : ∃ t, sufB s = t := ⟨_, rfl⟩
  rw [ht] at HC hle HD
  clear ht
  go_enter Tryd.func15, Tryd.ntmps15
  go_wp2_with (go_at_call 13; refine HC.out.mono ?_; rintro e w1 ⟨rfl, rfl⟩)
  go_ret
  refine ⟨?_, rfl⟩
  rw [HD.out]
  rfl
end Go.Proofs.YtpoekljclapbfaaDoor.G
