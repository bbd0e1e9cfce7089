/- path.Dir, Notdir, Suffix, Base and the reference's: what they answer for every text, and the walks of their code. -/
import Derived.Test.YtpoekljclapbfaaDoorPathAbs
namespace Go.Proofs.YtpoekljclapbfaaDoor.G
open Go.RowKit
set_option linter.unusedVariables false

def slashN (s : ByteArray) : Nat := (Lib.lastIndexByte s 47 + 1).toNat
theorem last_le (s : ByteArray) (c : Int) : ∀ k, -1 ≤ Lib.lastIdx s c k ∧ Lib.lastIdx s c k < k := fun k => by
  rcases Lib.lastIdx_spec s c k with ⟨h, _⟩ | ⟨i, h, e, _⟩ <;> omega
theorem slash_cast (s : ByteArray) : (slashN s : Int) = Lib.lastIndexByte s 47 + 1 := by
  have := last_le s 47 s.size
  unfold slashN Lib.lastIndexByte
  omega
theorem slash_le (s : ByteArray) : slashN s ≤ s.size := by
  have := last_le s 47 s.size
  unfold slashN Lib.lastIndexByte
  omega
def dirB (s : ByteArray) : ByteArray := if 0 < slashN s then s.extract 0 (slashN s) else ⟨#[46, 47]⟩
def notdirB (s : ByteArray) : ByteArray := s.extract (slashN s) s.size
def tailB (t : ByteArray) : ByteArray := if 0 ≤ Lib.lastIndexByte t 46 then t.extract (Lib.lastIndexByte t 46).toNat t.size else ⟨#[]⟩
def sufB (s : ByteArray) : ByteArray := tailB (notdirB s)
def baseB (s : ByteArray) : ByteArray := s.extract 0 (s.size - (sufB s).size)
theorem notdir_size (s : ByteArray) : (notdirB s).size ≤ s.size := by simp [notdirB, ByteArray.size_extract]
theorem tail_size (t : ByteArray) : (tailB t).size ≤ t.size := by
  unfold tailB
  split
  · simp [ByteArray.size_extract]
  · exact Nat.zero_le _
theorem suf_size (s : ByteArray) : (sufB s).size ≤ s.size := Nat.le_trans (tail_size _) (notdir_size s)

theorem path_cut (s : ByteArray) (hs : s.size ≤ 1000000) (w : World) : Calls Tryd.prog 20 #[.string s] w fun e w' => e = .returned (.int .i64 (slashN s)) ∧ w' = w := by
  go_enter Tryd.func20, Tryd.ntmps20
  have h1 := last_le s 47 s.size
  go_wp2_with (go_at_call 22; refine (Tryd.strings_LastIndexByte s 47 (by omega) w).mono ?_; rintro e w1 ⟨rfl, rfl⟩; obtain ⟨n, hn⟩ : ∃ n : Int, Lib.lastIndexByte s 47 = n := ⟨_, rfl⟩; have hn0 : -1 ≤ n ∧ n < s.size := (by rw [← hn]; exact h1); rw [hn])
  go_ret
  refine ⟨?_, rfl⟩
  rw [slash_cast, hn]
  rfl
theorem path_Dir (s : ByteArray) (hs : s.size ≤ 1000000) (w : World) : Calls Tryd.prog 8 #[.string s] w fun e w' => e = .returned (.string (dirB s)) ∧ w' = w := by
  have HD := Lib.hid (show dirB s = if 0 < slashN s then s.extract 0 (slashN s) else ⟨#[46, 47]⟩ from rfl)
  have hle := slash_le s
  have HC := Lib.hid (path_cut s hs w)
  obtain ⟨n, hn⟩ : ∃ n, slashN s = n := ⟨_, rfl⟩
  rw [hn] at HD hle HC
  clear hn
  go_enter Tryd.func8, Tryd.ntmps8
  go_wp2_with (go_at_call 20; refine HC.out.mono ?_; rintro e w1 ⟨rfl, rfl⟩)
  all_goals
    go_ret
    refine ⟨?_, rfl⟩
    rw [HD.out]
  · rw [if_pos ‹0 < n›]; rfl
  · rw [if_neg ‹¬ 0 < n›]; rfl
theorem path_Notdir (s : ByteArray) (hs : s.size ≤ 1000000) (w : World) : Calls Tryd.prog 10 #[.string s] w fun e w' => e = .returned (.string (notdirB s)) ∧ w' = w := by
  have HD := Lib.hid (show notdirB s = s.extract (slashN s) s.size from rfl)
  have hle := slash_le s
  have HC := Lib.hid (path_cut s hs w)
  obtain ⟨n, hn⟩ : ∃ n, slashN s = n := ⟨_, rfl⟩
  rw [hn] at HD hle HC
  clear hn
  go_enter Tryd.func10, Tryd.ntmps10
  go_wp2_with (go_at_call 20; refine HC.out.mono ?_; rintro e w1 ⟨rfl, rfl⟩)
  go_ret
  refine ⟨?_, rfl⟩
  rw [HD.out]
  rfl
theorem path_Suffix (s : ByteArray) (hs : s.size ≤ 1000000) (w : World) : Calls Tryd.prog 12 #[.string s] w fun e w' => e = .returned (.string (sufB s)) ∧ w' = w := by
  have HC := Lib.hid (path_Notdir s hs w)
  have hle := notdir_size s
  have HS : Hid (sufB s = tailB (notdirB s)) := Lib.hid rfl
  obtain ⟨t, ht⟩ : ∃ t, notdirB s = t := ⟨_, rfl⟩
  rw [ht] at HC hle HS
  clear ht
  have h1 := last_le t 46 t.size
  have HD := Lib.hid (show tailB t = if 0 ≤ Lib.lastIndexByte t 46 then t.extract (Lib.lastIndexByte t 46).toNat t.size else ⟨#[]⟩ from rfl)
  have HL := Lib.hid (Tryd.strings_LastIndexByte t 46 (by omega) w)
  rw [show Lib.lastIdx t 46 t.size = Lib.lastIndexByte t 46 from rfl] at h1
  obtain ⟨n, hn⟩ : ∃ n, Lib.lastIndexByte t 46 = n := ⟨_, rfl⟩
  rw [hn] at HD HL h1
  clear hn
  obtain ⟨h1, h2⟩ := h1
  go_enter Tryd.func12, Tryd.ntmps12
  go_wp2_with (first
    | (go_at_call 10; refine HC.out.mono ?_; rintro e w1 ⟨rfl, rfl⟩)
    | (go_at_call 22; refine HL.out.mono ?_; rintro e w1 ⟨rfl, rfl⟩))
  all_goals
    go_ret
    refine ⟨?_, rfl⟩
    rw [HS.out, HD.out]
  · rw [if_pos ‹0 ≤ n›]; rfl
  · rw [if_neg (by omega)]; rfl
theorem path_Base (s : ByteArray) (hs : s.size ≤ 1000000) (w : World) : Calls Tryd.prog 14 #[.string s] w fun e w' => e = .returned (.string (baseB s)) ∧ w' = w := by
  have HC := Lib.hid (path_Suffix s hs w)
  have hle := suf_size s
  have HD := Lib.hid (show baseB s = s.extract 0 (s.size - (sufB s).size) from rfl)
  obtain ⟨t, ht⟩ : ∃ t, sufB s = t := ⟨_, rfl⟩
  rw [ht] at HC hle HD
  clear ht
  go_enter Tryd.func14, Tryd.ntmps14
  go_wp2_with (go_at_call 12; refine HC.out.mono ?_; rintro e w1 ⟨rfl, rfl⟩)
  go_ret
  refine ⟨?_, rfl⟩
  rw [HD.out]
  rfl
end Go.Proofs.YtpoekljclapbfaaDoor.G
