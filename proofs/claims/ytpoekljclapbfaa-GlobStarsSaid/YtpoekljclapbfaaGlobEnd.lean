/- What glob.Match, glob.Magic and glob.Plain answer whole, for patterns without sets and names without a dot ahead. -/
import Derived.Test.YtpoekljclapbfaaGlobRun
import Derived.Test.YtpoekljclapbfaaPx8
import Derived.Test.YtpoekljclapbfaaPx9
namespace Go.Proofs.Ytpoekljclapbfaa.Pure
open Go.RowKit Go.Proofs.Ytpoekljclapbfaa.P Go.Proofs.Ytpoekljclapbfaa.G Go.Proofs.Ytpoekljclapbfaa.P0 Go.Proofs.YtpoekljclapbfaaW.PrintWords Go.Proofs.YtpoekljclapbfaaW.PrintLast

theorem up {α : Type} {f : Nat → Option α} (h : ∀ k, LeO (f k) (f (k + 1))) {K : Nat} {r : α} (e : f K = some r) (k : Nat) (hk : K ≤ k) : f k = some r := by
  induction k with
  | zero => rw [show K = 0 by omega] at e; exact e
  | succ k ih =>
    by_cases hh : K = k + 1
    · rw [← hh]; exact e
    · exact h k r (ih (by omega))

theorem prefix_dot (s : ByteArray) (h : s.data.toList.head? ≠ some 46) : strings_HasPrefix.f s (⟨#[46]⟩ : ByteArray) = some false := by
  unfold strings_HasPrefix.f stringslite_HasPrefix.f
  rw [show ((⟨#[46]⟩ : ByteArray).size : Int) = 1 from rfl, show (⟨#[46]⟩ : ByteArray).toList = [46] by rw [Lib.toList_data]]
  cases hs : s.data.toList with
  | nil =>
    have hz := size_cons hs
    rw [if_neg (by rw [hz]; decide)]; rfl
  | cons c r =>
    rw [hs] at h
    have hz := size_cons hs
    have hc : c ≠ 46 := by intro e; rw [e] at h; exact h rfl
    have hl : (s.extract 0 (1 : Int).toNat).toList = [c] := by
      rw [Lib.toList_data]
      obtain ⟨⟨l⟩⟩ := s
      simp only at hs
      subst hs
      simp
    rw [if_pos (by rw [hz]; simp; omega), if_pos (by omega), if_pos (by rw [hz]; simp; omega), hl]
    have : ([c] == [(46 : UInt8)]) = false := by simp [hc]
    rw [this]; rfl

theorem match_is (p s : ByteArray) (ts : List Tok) (hT : Toks p.data.toList ts) (hd : s.data.toList.head? ≠ some 46) :
    ∃ K, ∀ k, K ≤ k → glob_Match.f k p s = some (mat ts s.data.toList) := by
  refine ⟨2 * p.size + 2 + (s.size + 1) * (2 * p.size + 4) + 7, fun k hk => ?_⟩
  obtain ⟨k, rfl⟩ : ∃ m, k = m + 1 := ⟨k - 1, by omega⟩
  unfold glob_Match.f
  rw [prefix_dot s hd]
  simp only [Option.bind_some, glob_Match.j0]
  rw [if_neg (by decide), if_neg (by decide)]
  rw [match_l0 p.size _ k p s _ _ false ts [] (s.size + 1) (Nat.le_refl _) (by omega) (Nat.le_refl _) (Nat.zero_le _) hT (fun h => absurd h (by decide)) (fun _ => Nat.lt_succ_self _)]
  simp

def Tok.isAny : Tok → Bool
  | .any => true
  | _ => false

theorem magic_l0 : ∀ (n k : Nat) (p : ByteArray) (ts : List Tok), p.size ≤ n → n + 5 ≤ k → Toks p.data.toList ts → glob_Magic.l0 k p = some (ts.any (fun t => t.isStar || t.isAny)) := by
  intro n
  induction n with
  | zero =>
    intro k p ts hn hk hT
    obtain ⟨k, rfl⟩ : ∃ m, k = m + 1 := ⟨k - 1, by omega⟩
    have h0 : p.data.toList = [] := List.length_eq_zero_iff.mp (show p.size = 0 by omega)
    have : ts = [] := by
      cases ts with
      | nil => rfl
      | cons t ts => exact absurd h0 (toks_ne hT)
    subst this
    simp only [glob_Magic.l0]
    rw [if_pos (toList_nil p h0)]; rfl
  | succ n ih =>
    intro k p ts hn hk hT
    obtain ⟨k, rfl⟩ : ∃ m, k = m + 1 := ⟨k - 1, by omega⟩
    obtain ⟨j, hj⟩ : ∃ m, k = m + 3 := ⟨k - 3, by omega⟩
    simp only [glob_Magic.l0]
    cases ts with
    | nil => rw [if_pos (toList_nil p (toks_nil hT))]; rfl
    | cons t ts =>
      obtain ⟨m, hm, hT', h1, h2⟩ := next_is hT p rfl
      have hz0 : p.data.toList.length = p.size := rfl
      rw [if_neg (toList_ne p (toks_ne hT)), show glob_next.f k p = some (t.kind, t.byte, (⟨#[]⟩ : ByteArray), (m : Int)) by rw [hj]; exact hm j]
      simp only [Option.bind_some]
      cases t with
      | star => rw [if_neg (show ¬ Tok.kind .star = 0 from (show ¬ (42 : Int) = 0 by decide))]; rfl
      | any => rw [if_neg (show ¬ Tok.kind .any = 0 from (show ¬ (63 : Int) = 0 by decide))]; rfl
      | lit c =>
        rw [if_pos (show Tok.kind (.lit c) = 0 from rfl), if_pos (by omega), if_pos (by omega), Int.toNat_natCast]
        have hcz : (p.extract m p.size).size = p.size - m := by simp
        rw [ih k (p.extract m p.size) ts (by omega) (by omega) (by rw [Lib.extract_to_end]; exact hT')]
        rfl

theorem magic_is (p : ByteArray) (ts : List Tok) (hT : Toks p.data.toList ts) : ∃ K, ∀ k, K ≤ k → glob_Magic.f k p = some (ts.any (fun t => t.isStar || t.isAny)) :=
  ⟨p.size + 5, fun k hk => magic_l0 _ k p ts (Nat.le_refl _) hk hT⟩

theorem toks_app {p q : List UInt8} {t u : List Tok} (h : Toks p t) (h2 : Toks q u) : Toks (p ++ q) (t ++ u) := by
  induction h with
  | nil => exact h2
  | star _ ih => exact .star ih
  | any _ ih => exact .any ih
  | quote _ ih => exact .quote ih
  | lit a b c d _ ih => exact .lit a b c d ih

theorem toks_plain {p : List UInt8} {w : List UInt8} (h : Toks p (w.map .lit)) : plainL p = w := by
  generalize ht : w.map Tok.lit = t at h
  induction h generalizing w with
  | nil => rw [List.map_eq_nil_iff.mp ht]; rfl
  | star _ _ =>
    cases w with
    | nil => exact absurd ht (by simp)
    | cons c w => exact absurd ht (by simp)
  | any _ _ =>
    cases w with
    | nil => exact absurd ht (by simp)
    | cons c w => exact absurd ht (by simp)
  | @quote c r t _ ih =>
    cases w with
    | nil => exact absurd ht (by simp)
    | cons d w =>
      simp only [List.map_cons, List.cons.injEq, Tok.lit.injEq] at ht
      rw [plainL, if_pos rfl, ih ht.2, ht.1]
  | @lit c r t _ _ _ h92 _ ih =>
    cases w with
    | nil => exact absurd ht (by simp)
    | cons d w =>
      simp only [List.map_cons, List.cons.injEq, Tok.lit.injEq] at ht
      have e := ih ht.2
      cases r with
      | nil =>
        rw [← e, ← ht.1]; rfl
      | cons x r => rw [plainL, if_neg h92, e, ht.1]

theorem mat_lits (w s : List UInt8) : mat (w.map .lit) s = (s == w) := by
  induction w generalizing s with
  | nil => cases s <;> rfl
  | cons c w ih =>
    cases s with
    | nil => rfl
    | cons b s => simp only [List.map_cons, mat, ih]; rfl
end Go.Proofs.Ytpoekljclapbfaa.Pure
