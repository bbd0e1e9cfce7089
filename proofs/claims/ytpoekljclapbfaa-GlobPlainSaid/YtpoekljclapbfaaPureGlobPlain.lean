/- wainwrightlaw03.GlobPlain answers true at every two lists: quoted names match themselves alone; a star matches all. No condition. -/
import Derived.Test.YtpoekljclapbfaaGlobEnd
import Derived.Test.YtpoekljclapbfaaPx10
namespace Go.Proofs.Ytpoekljclapbfaa.Pure
open Go.RowKit Go.Proofs.Ytpoekljclapbfaa.P Go.Proofs.Ytpoekljclapbfaa.G Go.Proofs.Ytpoekljclapbfaa.P0 Go.Proofs.YtpoekljclapbfaaW.PrintWords Go.Proofs.YtpoekljclapbfaaW.PrintLast

/-- The pieces, by place; X: what stands for the star. -/
def pieceL (X : List UInt8) (n : Int) : List UInt8 :=
  if n = 0 then [97] else if n = 1 then [98] else if n = 2 then [97, 98] else if n = 3 then X else if n = 4 then [99] else [98]

theorem piece_is (X : ByteArray) (n : Int) (h0 : 0 ≤ n) (h1 : n < 6) :
    (rdOf ByteArray.empty ([(⟨#[97]⟩ : ByteArray), (⟨#[98]⟩ : ByteArray), (⟨#[97, 98]⟩ : ByteArray), X, (⟨#[99]⟩ : ByteArray), (⟨#[98]⟩ : ByteArray)] : List ByteArray) n).data.toList = pieceL X.data.toList n := by
  have : n = 0 ∨ n = 1 ∨ n = 2 ∨ n = 3 ∨ n = 4 ∨ n = 5 := by omega
  rcases this with rfl | rfl | rfl | rfl | rfl | rfl <;> rfl

/-- What is made of a list of places, from one on. -/
def madeL (X : List UInt8) (z : List Int) : Nat → Nat → List UInt8
  | 0, _ => []
  | d + 1, i => (match wainwrightlaw00_Place.f (rd z (i : Int)) 6 with | some n => pieceL X n | none => []) ++ madeL X z d (i + 1)

def lenOf (z : List Int) : Nat := min z.length 20

theorem made_len (X : List UInt8) (hX : X.length ≤ 2) (z : List Int) : ∀ d i, (madeL X z d i).length ≤ 2 * d := by
  intro d
  induction d with
  | zero => intro i; exact Nat.le_refl _
  | succ d ih =>
    intro i
    obtain ⟨n, hn, h0, h1⟩ := place (rd z (i : Int)) 6 (by decide) (by decide)
    simp only [madeL, hn, List.length_append]
    have := ih (i + 1)
    have : (pieceL X n).length ≤ 2 := by
      unfold pieceL
      repeat' split
      all_goals first | decide | exact hX
    omega

theorem made_l0 (X : ByteArray) (hX : X.data.toList.length ≤ 2) (z : List Int) : ∀ (d i k : Nat) (s : ByteArray), i + d = lenOf z → d < k → s.size ≤ 2 * i →
    ∃ r, wainwrightlaw03_GlobPlain_1.l0 k z X s (i : Int) = some r ∧ r.data.toList = s.data.toList ++ madeL X.data.toList z d i := by
  intro d
  induction d with
  | zero =>
    intro i k s hi hk hs
    obtain ⟨k, rfl⟩ : ∃ m, k = m + 1 := ⟨k - 1, by omega⟩
    simp only [wainwrightlaw03_GlobPlain_1.l0]
    refine ⟨s, ?_, by simp [madeL]⟩
    unfold lenOf at hi
    by_cases h : (i : Int) < (z.length : Int)
    · rw [if_pos h, if_neg (by omega)]
    · rw [if_neg h]
  | succ d ih =>
    intro i k s hi hk hs
    obtain ⟨k, rfl⟩ : ∃ m, k = m + 1 := ⟨k - 1, by omega⟩
    simp only [wainwrightlaw03_GlobPlain_1.l0]
    have hl : lenOf z ≤ 20 ∧ lenOf z ≤ z.length := by unfold lenOf; omega
    obtain ⟨n, hn, h0, h1⟩ := place (rd z (i : Int)) 6 (by decide) (by decide)
    have hp := piece_is X n h0 h1
    have hw : wrap64 ((i : Int) + 1) = ((i + 1 : Nat) : Int) := by unfold wrap64; omega
    rw [if_pos (by omega), if_pos (by omega), if_pos (by omega), hn]
    simp only [Option.bind_some]
    generalize rdOf ByteArray.empty ([(⟨#[97]⟩ : ByteArray), (⟨#[98]⟩ : ByteArray), (⟨#[97, 98]⟩ : ByteArray), X, (⟨#[99]⟩ : ByteArray), (⟨#[98]⟩ : ByteArray)] : List ByteArray) n = q at hp ⊢
    have hq : q.size ≤ 2 := by
      have : (pieceL X.data.toList n).length ≤ 2 := by
        unfold pieceL
        repeat' split
        all_goals first | decide | exact hX
      rw [← hp] at this
      exact this
    rw [if_pos h0, if_pos h1, if_pos (by omega), hw]
    obtain ⟨r, hr, e⟩ := ih (i + 1) k (s ++ q) (by omega) (by omega) (by rw [ByteArray.size_append]; omega)
    refine ⟨r, hr, ?_⟩
    rw [e]
    simp only [madeL, hn]
    rw [show (s ++ q).data.toList = s.data.toList ++ q.data.toList by simp, hp, List.append_assoc]

theorem made_is (X : ByteArray) (hX : X.data.toList.length ≤ 2) (z : List Int) : ∃ r, (∀ k, 21 ≤ k → wainwrightlaw03_GlobPlain_1.f k z X = some r) ∧ r.data.toList = madeL X.data.toList z (lenOf z) 0 := by
  obtain ⟨r, hr, e⟩ := made_l0 X hX z (lenOf z) 0 (lenOf z + 1) ⟨#[]⟩ (by omega) (by omega) (Nat.zero_le _)
  refine ⟨r, fun k hk => ?_, by rw [e]; rfl⟩
  exact up (fun k => wainwrightlaw03_GlobPlain_1.mono z X k) (f := fun k => wainwrightlaw03_GlobPlain_1.f k z X) (K := lenOf z + 1) hr k (by unfold lenOf; omega)

theorem made_toks (z : List Int) : ∀ d i, Toks (madeL [92, 42] z d i) ((madeL [42] z d i).map .lit) := by
  intro d
  induction d with
  | zero => intro i; exact .nil
  | succ d ih =>
    intro i
    obtain ⟨n, hn, h0, h1⟩ := place (rd z (i : Int)) 6 (by decide) (by decide)
    simp only [madeL, hn, List.map_append]
    refine toks_app ?_ (ih (i + 1))
    have : n = 0 ∨ n = 1 ∨ n = 2 ∨ n = 3 ∨ n = 4 ∨ n = 5 := by omega
    rcases this with rfl | rfl | rfl | rfl | rfl | rfl
    · exact .lit (by decide) (by decide) (by decide) (by decide) .nil
    · exact .lit (by decide) (by decide) (by decide) (by decide) .nil
    · exact .lit (by decide) (by decide) (by decide) (by decide) (.lit (by decide) (by decide) (by decide) (by decide) .nil)
    · exact .quote .nil
    · exact .lit (by decide) (by decide) (by decide) (by decide) .nil
    · exact .lit (by decide) (by decide) (by decide) (by decide) .nil

/-- The parts that a name is where it stands as a pattern. -/
def tokOf (c : UInt8) : Tok := if c = 42 then .star else .lit c
theorem made_own (z : List Int) : ∀ d i, Toks (madeL [42] z d i) ((madeL [42] z d i).map tokOf) ∧ (madeL [42] z d i).head? ≠ some 46 := by
  intro d
  induction d with
  | zero => intro i; exact ⟨.nil, by simp [madeL]⟩
  | succ d ih =>
    intro i
    obtain ⟨n, hn, h0, h1⟩ := place (rd z (i : Int)) 6 (by decide) (by decide)
    simp only [madeL, hn, List.map_append]
    have : n = 0 ∨ n = 1 ∨ n = 2 ∨ n = 3 ∨ n = 4 ∨ n = 5 := by omega
    refine ⟨toks_app ?_ (ih (i + 1)).1, ?_⟩
    · rcases this with rfl | rfl | rfl | rfl | rfl | rfl
      · exact .lit (by decide) (by decide) (by decide) (by decide) .nil
      · exact .lit (by decide) (by decide) (by decide) (by decide) .nil
      · exact .lit (by decide) (by decide) (by decide) (by decide) (.lit (by decide) (by decide) (by decide) (by decide) .nil)
      · exact .star .nil
      · exact .lit (by decide) (by decide) (by decide) (by decide) .nil
      · exact .lit (by decide) (by decide) (by decide) (by decide) .nil
    · rcases this with rfl | rfl | rfl | rfl | rfl | rfl <;> simp [pieceL]

theorem own_star (w s : List UInt8) : mat (w.map tokOf ++ [.star]) (w ++ s) = true := by
  induction w with
  | nil =>
    refine (anySuf_iff _ _).mpr ⟨[], List.nil_suffix, rfl⟩
  | cons c w ih =>
    simp only [List.map_cons, List.cons_append]
    by_cases h : c = 42
    · rw [show tokOf c = .star by simp [tokOf, h]]
      exact (anySuf_iff _ _).mpr ⟨w ++ s, List.suffix_cons _ _, ih⟩
    · rw [show tokOf c = .lit c by simp [tokOf, h]]
      simp only [mat, ih]
      simp

theorem plain_is (p : ByteArray) (h : p.size ≤ 140737488355327) : glob_Plain.f p = some ⟨(plainL p.data.toList).toArray⟩ := by
  unfold glob_Plain.f
  rw [if_pos h]

theorem GlobPlain : wainwrightlaw03_GlobPlain.Pure := by
  intro l0 l1 _ _ _ _ _ _
  obtain ⟨p, hp, ep⟩ := made_is ⟨#[92, 42]⟩ (by decide) l0
  obtain ⟨s, hs, es⟩ := made_is ⟨#[42]⟩ (by decide) l1
  obtain ⟨o, ho, eo⟩ := made_is ⟨#[42]⟩ (by decide) l0
  have hT : Toks p.data.toList (o.data.toList.map .lit) := by rw [ep, eo]; exact made_toks _ _ _
  have hlit : ∀ w : List UInt8, (w.map Tok.lit).any (fun t => t.isStar || t.isAny) = false := by
    intro w; induction w with
    | nil => rfl
    | cons c w ih => simp [Tok.isStar, Tok.isAny]
  have hod : o.data.toList.head? ≠ some 46 := by rw [eo]; exact (made_own _ _ _).2
  have hsd : s.data.toList.head? ≠ some 46 := by rw [es]; exact (made_own _ _ _).2
  have hoT : Toks o.data.toList (o.data.toList.map tokOf) := by rw [eo]; exact (made_own _ _ _).1
  have hpz : p.data.toList.length ≤ 40 := by rw [ep]; exact Nat.le_trans (made_len _ (by decide) _ _ _) (by unfold lenOf; omega)
  have hoz : o.data.toList.length ≤ 40 := by rw [eo]; exact Nat.le_trans (made_len _ (by decide) _ _ _) (by unfold lenOf; omega)
  have hsz : s.data.toList.length ≤ 40 := by rw [es]; exact Nat.le_trans (made_len _ (by decide) _ _ _) (by unfold lenOf; omega)
  have hpz' : p.size ≤ 40 := hpz
  have hoz' : o.size ≤ 40 := hoz
  have hsz' : s.size ≤ 40 := hsz
  obtain ⟨K1, m1⟩ := magic_is p _ hT
  obtain ⟨K2, m2⟩ := match_is p o _ hT hod
  obtain ⟨K3, m3⟩ := match_is p s _ hT hsd
  obtain ⟨K4, m4⟩ := match_is ⟨#[42]⟩ s [.star] (.star .nil) hsd
  have eos : (o ++ s).data.toList = o.data.toList ++ s.data.toList := by simp
  obtain ⟨K5, m5⟩ := match_is (o ++ ⟨#[42]⟩) (o ++ s) (o.data.toList.map tokOf ++ [.star]) (by
      rw [show (o ++ (⟨#[42]⟩ : ByteArray)).data.toList = o.data.toList ++ [42] by simp]
      exact toks_app hoT (.star .nil)) (by
      rw [eos]
      cases h : o.data.toList with
      | nil => simpa using hsd
      | cons c r => rw [h] at hod; simpa using hod)
  refine ⟨K1 + K2 + K3 + K4 + K5 + 40, ?_⟩
  unfold wainwrightlaw03_GlobPlain.f
  rw [hp _ (by omega), hs _ (by omega), ho _ (by omega)]
  simp only [Option.bind_some]
  rw [m1 _ (by omega), hlit]
  simp only [Option.bind_some]
  rw [if_neg (by decide), plain_is p (by omega), toks_plain hT]
  simp only [Option.bind_some]
  rw [if_pos (by first | trivial | rw [Lib.toList_data, Lib.toList_data]), m2 _ (by omega), mat_lits]
  simp only [Option.bind_some]
  rw [if_pos (by simp), m3 _ (by omega), mat_lits]
  simp only [Option.bind_some]
  rw [if_pos (by rw [Lib.toList_data, Lib.toList_data]; simp), m4 _ (by omega), show mat [.star] s.data.toList = true from (anySuf_iff _ _).mpr ⟨[], List.nil_suffix, rfl⟩]
  simp only [Option.bind_some]
  rw [if_pos trivial, if_pos (by omega), if_pos (by omega), m5 _ (by omega), eos, own_star]
  simp only [Option.bind_some]
  rw [if_pos trivial]
  rw [up (f := wainwrightlaw03_awake.f) (fun k => wainwrightlaw03_awake.mono k) awake_40 _ (by omega)]
  rfl
end Go.Proofs.Ytpoekljclapbfaa.Pure
