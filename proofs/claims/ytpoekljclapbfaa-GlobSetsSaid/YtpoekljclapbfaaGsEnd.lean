/- What glob.Match and glob.Magic answer whole, for every pattern. -/
import Derived.Test.YtpoekljclapbfaaGsRun
import Derived.Test.YtpoekljclapbfaaPx1
import Derived.Test.YtpoekljclapbfaaPx8
import Derived.Test.YtpoekljclapbfaaPx9
namespace Go.Proofs.Ytpoekljclapbfaa.Gs
open Go.RowKit Go.Proofs.Ytpoekljclapbfaa.P Go.Proofs.Ytpoekljclapbfaa.G Go.Proofs.Ytpoekljclapbfaa.P0 Go.Proofs.YtpoekljclapbfaaW.PrintWords Go.Proofs.YtpoekljclapbfaaW.PrintLast

def begins (l s : List UInt8) : Bool := decide (l <+: s)
theorem prefix_is (s p : ByteArray) : strings_HasPrefix.f s p = some (begins p.data.toList s.data.toList) := by
  unfold strings_HasPrefix.f stringslite_HasPrefix.f
  have hs : s.data.toList.length = s.size := rfl
  have hp : p.data.toList.length = p.size := rfl
  by_cases h : p.size ≤ s.size
  · rw [if_pos (by omega), if_pos (by omega), if_pos (by omega), Option.bind_some, Lib.toList_data, Lib.toList_data, Int.toNat_natCast, ByteArray.data_extract, Array.toList_extract]
    congr 1
    have e : s.data.toList.extract 0 p.size = s.data.toList.take p.size := by simp [List.extract]
    rw [e]
    unfold begins
    rw [Bool.eq_iff_iff]
    simp only [beq_iff_eq, decide_eq_true_eq]
    rw [List.prefix_iff_eq_take, hp]
    exact eq_comm
  · rw [if_neg (by omega), Option.bind_some]
    congr 1
    unfold begins
    symm
    rw [decide_eq_false_iff_not]
    intro hh
    have := hh.length_le
    omega

/-- Is a name hidden from a pattern? -/
def hides (p s : List UInt8) : Bool := begins [46] s && !begins [46] p && !begins [92, 46] p
def piecesOf (p : List UInt8) : List Pc := pcs (p.length + 1) p
def matchB (p s : List UInt8) : Bool := !hides p s && mat (piecesOf p) s
def magicB (p : List UInt8) : Bool := (piecesOf p).any (fun t => decide (t.kind ≠ 0))

theorem match_is (p s : ByteArray) (hp : p.size < 1099511627776) : ∃ K, glob_Match.f K p s = some (matchB p.data.toList s.data.toList) := by
  refine ⟨2 * p.size + 2 + (s.size + 1) * (2 * p.size + 4) + 2 * p.size + 21, ?_⟩
  have hT := toks_pcs (p.data.toList.length + 1) p.data.toList (Nat.lt_succ_self _)
  have hl := match_l0 p.size hp _ (2 * p.size + 2 + (s.size + 1) * (2 * p.size + 4) + 2 * p.size + 20) p s ⟨#[]⟩ ⟨#[]⟩ false _ [] (s.size + 1) (Nat.le_refl _) (Nat.le_refl _) (Nat.le_refl _) (Nat.zero_le _) hT (fun h => absurd h (by decide)) (fun _ => Nat.lt_succ_self _)
  rw [Bool.false_and, Bool.or_false] at hl
  have hj : ∀ b, glob_Match.j0 (2 * p.size + 2 + (s.size + 1) * (2 * p.size + 4) + 2 * p.size + 20 + 1) p s b = some (!b && mat (piecesOf p.data.toList) s.data.toList) := by
    intro b
    simp only [glob_Match.j0]
    cases b with
    | true => rfl
    | false => rw [if_neg (by decide), hl]; rfl
  unfold glob_Match.f
  rw [prefix_is, prefix_is, prefix_is, Option.bind_some, Option.bind_some, Option.bind_some, hj, hj]
  show (if begins [46] s.data.toList = true then (if begins [46] p.data.toList = true then _ else some (!(!begins [92, 46] p.data.toList) && _)) else _) = some (!hides p.data.toList s.data.toList && _)
  unfold hides
  cases begins [46] s.data.toList <;> cases begins [46] p.data.toList <;> simp

theorem magic_l0 (N : Nat) (hN : N < 1099511627776) : ∀ (n k : Nat) (p : ByteArray) (ts : List Pc), p.size ≤ n → n + 2 * N + 9 ≤ k → p.size ≤ N → Toks p.data.toList ts → glob_Magic.l0 k p = some (ts.any (fun t => decide (t.kind ≠ 0))) := by
  intro n
  induction n with
  | zero =>
    intro k p ts hn hk hz hT
    obtain ⟨k, rfl⟩ : ∃ m, k = m + 1 := ⟨k - 1, by omega⟩
    have h0 : p.data.toList = [] := List.length_eq_zero_iff.mp (show p.size = 0 by omega)
    have : ts = [] := by
      cases ts with
      | nil => rfl
      | cons t ts => exact absurd h0 (toks_ne hT)
    subst this
    simp only [glob_Magic.l0]
    rw [if_pos (toList_nil p h0)]; rfl
  | succ n ih =>
    intro k p ts hn hk hz hT
    obtain ⟨k, rfl⟩ : ∃ m, k = m + 1 := ⟨k - 1, by omega⟩
    simp only [glob_Magic.l0]
    cases ts with
    | nil => rw [if_pos (toList_nil p (toks_nil hT))]; rfl
    | cons t ts =>
      obtain ⟨m, st, hm, _, _, hT', h1, h2⟩ := next_is hT p rfl (by omega)
      have hz0 : p.data.toList.length = p.size := rfl
      rw [if_neg (toList_ne p (toks_ne hT)), hm k (by omega), Option.bind_some]
      simp only []
      by_cases hk0 : t.kind = 0
      · rw [if_pos hk0, if_pos (by omega), if_pos (by omega), Int.toNat_natCast]
        have hcz : (p.extract m p.size).size = p.size - m := by simp
        rw [ih k (p.extract m p.size) ts (by omega) (by omega) (by omega) (by rw [Lib.extract_to_end]; exact hT')]
        simp [hk0]
      · rw [if_neg hk0]
        simp [hk0]
theorem magic_is (p : ByteArray) (hp : p.size < 1099511627776) : ∃ K, glob_Magic.f K p = some (magicB p.data.toList) :=
  ⟨p.size + 2 * p.size + 9, magic_l0 p.size hp _ _ p _ (Nat.le_refl _) (Nat.le_refl _) (Nat.le_refl _) (toks_pcs (p.data.toList.length + 1) p.data.toList (Nat.lt_succ_self _))⟩

/-! ### The calls -/
theorem gmatch_calls (p s : ByteArray) (hp : p.size < 1099511627776) (w : World) : Calls Try.prog 9 #[.string p, .string s] w fun e w' => e = .returned (.bool (matchB p.data.toList s.data.toList)) ∧ Below w.heap.size w w' := by
  obtain ⟨K, h⟩ := match_is p s hp
  exact glob_Match.calls K p s _ w h
theorem gmagic_calls (p : ByteArray) (hp : p.size < 1099511627776) (w : World) : Calls Try.prog 11 #[.string p] w fun e w' => e = .returned (.bool (magicB p.data.toList)) ∧ Below w.heap.size w w' := by
  obtain ⟨K, h⟩ := magic_is p hp
  exact glob_Magic.calls K p _ w h
end Go.Proofs.Ytpoekljclapbfaa.Gs
