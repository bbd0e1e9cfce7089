/- sound.op: its contract, joined. -/
import Derived.Test.YtlnjikneepgpaaaSoundOp2
import Derived.Test.YtlnjikneepgpaaaSoundOp3
namespace Go.Proofs.Ytlnjikneepgpaaa.G
open Go.RowKit Go.Proofs.YtlnjikneepgpaaaW.PrintWords Go.Proofs.Ytlnjikneepgpaaa.P0

set_option maxHeartbeats 4000000 in
set_option maxRecDepth 100000 in
theorem op_none (f0 f1 : Int) (f2 : ByteArray) (l : Nat) (A : Option Addr) (c : Nat) (a1 a2 : Int) (w : World) (hk : f0 < 1 ∨ 6 < f0) :
    Calls Try.prog 90 #[.agg #[.int .i64 f0, .int .i64 f1, .string f2, .slice A l c], .int .i64 a1, .int .i64 a2] w fun e w' => e = .returned (.tuple #[.int .i64 0, .bool false]) ∧ Below w.heap.size w w' := by
  by_cases h1 : f0 < 1
  · clear hk
    go_enter Try.func90, Try.ntmps90
    go_wp2_with fail
    go_ret2
    exact ⟨rfl, (Below.refl _ _).alloc (Nat.le_refl _) _⟩
  · have h2 : 6 < f0 := by omega
    clear hk
    go_enter Try.func90, Try.ntmps90
    go_wp2_with fail
    go_ret2
    exact ⟨rfl, (Below.refl _ _).alloc (Nat.le_refl _) _⟩

def sound_op.f (k n : Int) (s : ByteArray) (l : List Int) (block blocks : Int) : Option (Int × Bool) :=
  if k < 1 ∨ 6 < k then some (0, false)
  else if opBad k n s l = true then some (0, false)
  else if k = 5 then (sound_fits.f s false n).bind fun t => some (n, t)
  else if k = 6 then (if l.length ≤ 9223372036854775807 then (if l.any (fun b => decide (b ≤ block ∨ blocks ≤ b)) = true then some (0, false) else (sound_fits.f s true l.length).bind fun t => some (0, t)) else none)
  else if k = 4 then some (n, true)
  else some (opTakes k, true)

theorem len_zero {l : List Int} (h : l ≠ []) : (0 : Int) < (l.length : Int) := by
  cases l with
  | nil => exact absurd rfl h
  | cons a l => simp

theorem sound_op.calls (f0 f1 : Int) (f2 : ByteArray) (A : Option Addr) (c : Nat) (f3 : List Int) (a1 a2 r1 : Int) (r2 : Bool) (w : World) (hr : Kd.C (Kd.int .i64) w A f3.length f3) (_hc : f3.length ≤ c) (h : sound_op.f f0 f1 f2 f3 a1 a2 = some (r1, r2)) :
    Calls Try.prog 90 #[.agg #[.int .i64 f0, .int .i64 f1, .string f2, .slice A f3.length c], .int .i64 a1, .int .i64 a2] w fun e w' => e = .returned (.tuple #[.int .i64 r1, .bool r2]) ∧ Below w.heap.size w w' := by
  unfold sound_op.f at h
  by_cases hk : f0 < 1 ∨ 6 < f0
  · rw [if_pos hk] at h
    simp only [Option.some.injEq, Prod.mk.injEq] at h
    obtain ⟨rfl, rfl⟩ := h
    exact op_none f0 f1 f2 f3.length A c a1 a2 w hk
  · rw [if_neg hk] at h
    have hk6 : f0 = 1 ∨ f0 = 2 ∨ f0 = 3 ∨ f0 = 4 ∨ f0 = 5 ∨ f0 = 6 := by omega
    clear hk
    by_cases hb : opBad f0 f1 f2 f3 = true
    · rw [if_pos hb] at h
      simp only [Option.some.injEq, Prod.mk.injEq] at h
      obtain ⟨rfl, rfl⟩ := h
      rcases hk6 with rfl | rfl | rfl | rfl | rfl | rfl
      · by_cases hn : f1 = 0
        · subst hn
          by_cases hl : f3 = []
          · subst hl; exact absurd hb (by simp [opBad])
          · exact op1_badL f2 f3.length A c a1 a2 w (len_zero hl)
        · exact op1_badN f1 f2 f3.length A c a1 a2 w hn
      · by_cases hn : f1 = 0
        · subst hn
          by_cases hs : f2.toList = []
          · by_cases hl : f3 = []
            · subst hl; exact absurd hb (by simp [opBad, hs])
            · exact op2_badL f2 f3.length A c a1 a2 w hs (len_zero hl)
          · exact op2_badS f2 f3.length A c a1 a2 w hs
        · exact op2_badN f1 f2 f3.length A c a1 a2 w hn
      · by_cases hn : f1 = 0
        · subst hn
          by_cases hs : f2.toList = []
          · by_cases hl : f3 = []
            · subst hl; exact absurd hb (by simp [opBad, hs])
            · exact op3_badL f2 f3.length A c a1 a2 w hs (len_zero hl)
          · exact op3_badS f2 f3.length A c a1 a2 w hs
        · exact op3_badN f1 f2 f3.length A c a1 a2 w hn
      · by_cases hs : f2.toList = []
        · by_cases hl : f3 = []
          · subst hl
            by_cases hg : f1 < 0
            · exact op4_neg f1 f2 A c a1 a2 w hs hg
            · exact absurd hb (by simp [opBad, hs]; omega)
          · exact op4_badL f1 f2 f3.length A c a1 a2 w hs (len_zero hl)
        · exact op4_badS f1 f2 f3.length A c a1 a2 w hs
      · by_cases hl : f3 = []
        · subst hl
          by_cases hg : f1 < 0
          · exact op5_neg f1 f2 A c a1 a2 w hg
          · exact absurd hb (by simp [opBad]; omega)
        · exact op5_badL f1 f2 f3.length A c a1 a2 w (len_zero hl)
      · by_cases hn : f1 = 0
        · subst hn; exact absurd hb (by simp [opBad])
        · exact op6_badN f1 f2 f3.length A c a1 a2 w hn
    · rw [if_neg hb] at h
      simp only [opBad, Bool.or_eq_true, Bool.and_eq_true, Bool.not_eq_true', decide_eq_true_eq, decide_eq_false_iff_not, not_or, not_and, Classical.not_not] at hb
      rcases hk6 with rfl | rfl | rfl | rfl | rfl | rfl
      · obtain rfl : f1 = 0 := hb.1.1.1 (by decide)
        obtain rfl : f3 = [] := hb.1.2 (by decide)
        rw [if_neg (by decide), if_neg (by decide), if_neg (by decide)] at h
        simp only [Option.some.injEq, Prod.mk.injEq, opTakes] at h
        obtain ⟨rfl, rfl⟩ := h
        exact op1_ok f2 A c a1 a2 w
      · obtain rfl : f1 = 0 := hb.1.1.1 (by decide)
        obtain rfl : f3 = [] := hb.1.2 (by decide)
        have hs : f2.toList = [] := hb.1.1.2 (by decide)
        rw [if_neg (by decide), if_neg (by decide), if_neg (by decide)] at h
        simp only [Option.some.injEq, Prod.mk.injEq, opTakes] at h
        obtain ⟨rfl, rfl⟩ := h
        exact op2_ok f2 A c a1 a2 w hs
      · obtain rfl : f1 = 0 := hb.1.1.1 (by decide)
        obtain rfl : f3 = [] := hb.1.2 (by decide)
        have hs : f2.toList = [] := hb.1.1.2 (by decide)
        rw [if_neg (by decide), if_neg (by decide), if_neg (by decide)] at h
        simp only [Option.some.injEq, Prod.mk.injEq, opTakes] at h
        obtain ⟨rfl, rfl⟩ := h
        exact op3_ok f2 A c a1 a2 w hs
      · obtain rfl : f3 = [] := hb.1.2 (by decide)
        have hs : f2.toList = [] := hb.1.1.2 (by decide)
        rw [if_neg (by decide), if_neg (by decide), if_pos (by decide)] at h
        simp only [Option.some.injEq, Prod.mk.injEq] at h
        obtain ⟨rfl, rfl⟩ := h
        exact op4_ok f1 f2 A c a1 a2 w hs (by omega)
      · obtain rfl : f3 = [] := hb.1.2 (by decide)
        rw [if_pos (by decide)] at h
        obtain ⟨t, ht, h⟩ := Option.bind_eq_some_iff.mp h
        simp only [Option.some.injEq, Prod.mk.injEq] at h
        obtain ⟨rfl, rfl⟩ := h
        exact op5_ok f1 f2 t A c a1 a2 w (by omega) ht
      · obtain rfl : f1 = 0 := hb.1.1.1 (by decide)
        rw [if_neg (by decide), if_pos (by decide)] at h
        by_cases hz : f3.length ≤ 9223372036854775807
        · rw [if_pos hz] at h
          by_cases ha : f3.any (fun b => decide (b ≤ a1 ∨ a2 ≤ b)) = true
          · rw [if_pos ha] at h
            simp only [Option.some.injEq, Prod.mk.injEq] at h
            obtain ⟨rfl, rfl⟩ := h
            exact op6_ok f2 f3 false A c a1 a2 w hr hz (Lib.hid (by rw [if_pos (show f3.any (bBad a1 a2) = true from ha)]))
          · rw [if_neg ha] at h
            obtain ⟨t, ht, h⟩ := Option.bind_eq_some_iff.mp h
            simp only [Option.some.injEq, Prod.mk.injEq] at h
            obtain ⟨rfl, rfl⟩ := h
            exact op6_ok f2 f3 t A c a1 a2 w hr hz (Lib.hid (by rw [if_neg (show ¬ f3.any (bBad a1 a2) = true from ha)]; exact ht))
        · rw [if_neg hz] at h
          cases h
end Go.Proofs.Ytlnjikneepgpaaa.G
