/- wainwrightref03.one, Plain: contracts in plain words. -/
import Derived.Test.YtpoekljclapbfaaGsEnd
import Derived.Test.YtpoekljclapbfaaPRx
namespace Go.Proofs.Ytpoekljclapbfaa.Gs
open Go.RowKit Go.Proofs.Ytpoekljclapbfaa.PR Go.Proofs.Ytpoekljclapbfaa.G Go.Proofs.Ytpoekljclapbfaa.P0 Go.Proofs.YtpoekljclapbfaaW.PrintWords Go.Proofs.YtpoekljclapbfaaW.PrintLast

theorem one_f (p : ByteArray) (hp : p.size < 1099511627776) (i : Nat) (c : UInt8) (r : List UInt8) (h : p.data.toList.drop i = c :: r) :
    ∃ j : Nat, wainwrightref03_one.f p (i : Int) = some (((oneB (c :: r)).1.toNat : Int), (j : Int)) ∧ p.data.toList.drop j = (oneB (c :: r)).2 ∧ i < j ∧ j ≤ p.size := by
  obtain ⟨hb, hi, hr⟩ := bt_drop h
  have w1 : wrap64 ((i : Int) + 1) = ((i + 1 : Nat) : Int) := by unfold wrap64; omega
  have w2 : wrap64 ((i : Int) + 2) = ((i + 2 : Nat) : Int) := by unfold wrap64; omega
  unfold wainwrightref03_one.f
  rw [if_pos (by omega), if_pos (by omega), hb, w1, w2]
  cases r with
  | nil =>
    have hz := drop_nil hr
    refine ⟨i + 1, ?_, hr, by omega, by omega⟩
    rw [if_neg (show ¬ (((i + 1 : Nat) : Int) < (p.size : Int)) by omega)]
    split <;> rfl
  | cons d r =>
    obtain ⟨hb1, hi1, hr1⟩ := bt_drop hr
    by_cases hq : c = 92
    · subst hq
      refine ⟨i + 2, ?_, by rw [oneB_q]; exact hr1, by omega, by omega⟩
      rw [if_pos (by rfl), if_pos (by omega), if_pos (by omega), hb1, oneB_q]
    · refine ⟨i + 1, ?_, by rw [oneB_ne hq]; exact hr, by omega, by omega⟩
      rw [if_neg (neC 92 92 rfl hq), oneB_ne hq]
theorem one_calls (p : ByteArray) (hp : p.size < 1099511627776) (i : Nat) (c : UInt8) (r : List UInt8) (h : p.data.toList.drop i = c :: r) (w : World) :
    Calls Try.prog 24 #[.string p, .int .i64 i] w fun e w' => ∃ j : Nat, e = .returned (.tuple #[.int .u8 ((oneB (c :: r)).1.toNat : Int), .int .i64 j]) ∧ (p.data.toList.drop j = (oneB (c :: r)).2 ∧ i < j ∧ j ≤ p.size) ∧ ∃ m, w' = w.drewN m := by
  obtain ⟨j, h1, h2⟩ := one_f p hp i c r h
  refine (wainwrightref03_one.calls p (i : Int) _ _ w h1).mono ?_
  rintro e w' ⟨rfl, hd⟩
  exact ⟨j, rfl, h2, hd.out⟩
theorem plain_oneB (c : UInt8) (r : List UInt8) : plainL (c :: r) = (oneB (c :: r)).1 :: plainL (oneB (c :: r)).2 := by
  cases r with
  | nil => rfl
  | cons d r =>
    simp only [plainL, oneB]
    split <;> rfl
theorem plain_l0 (p : ByteArray) (hp : p.size < 1099511627776) : ∀ (n i k : Nat) (l : List UInt8), p.size - i ≤ n → n + 1 ≤ k → l.length ≤ i →
    wainwrightref03_Plain.l0 k p (l.map (fun c => (c.toNat : Int))) (i : Int) = some (strOfNums ((l ++ plainL (p.data.toList.drop i)).map (fun c => (c.toNat : Int)))) := by
  intro n
  induction n using Nat.strongRecOn with
  | _ n ih =>
    intro i k l hn hk hl
    obtain ⟨k, rfl⟩ : ∃ m, k = m + 1 := ⟨k - 1, by omega⟩
    simp only [wainwrightref03_Plain.l0]
    cases hd : p.data.toList.drop i with
    | nil =>
      have hz := drop_nil hd
      rw [if_neg (by omega)]
      simp [plainL]
    | cons c r =>
      obtain ⟨hb, hi, hr⟩ := bt_drop hd
      obtain ⟨j, h1, h2, h3, h4⟩ := one_f p hp i c r hd
      rw [if_pos (by omega), h1, Option.bind_some, if_pos (by simp; omega)]
      have hm : l.map (fun c => (c.toNat : Int)) ++ [((oneB (c :: r)).1.toNat : Int)] = (l ++ [(oneB (c :: r)).1]).map (fun c => (c.toNat : Int)) := by simp
      simp only []
      rw [hm, ih (p.size - j) (by omega) j k _ (Nat.le_refl _) (by omega) (by simp; omega), h2, plain_oneB c r]
      simp
end Go.Proofs.Ytpoekljclapbfaa.Gs
