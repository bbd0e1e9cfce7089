/- What glob.set and glob.in answer: the end of a set; is a byte in it. -/
import Derived.Test.YtpoekljclapbfaaGsMat
import Derived.Test.YtpoekljclapbfaaPx2
import Derived.Test.YtpoekljclapbfaaPx4
import Derived.Test.YtpoekljclapbfaaGlobPlain
namespace Go.Proofs.Ytpoekljclapbfaa.Gs
open Go.RowKit Go.Proofs.Ytpoekljclapbfaa.P Go.Proofs.Ytpoekljclapbfaa.G Go.Proofs.Ytpoekljclapbfaa.P0 Go.Proofs.YtpoekljclapbfaaW.PrintWords Go.Proofs.YtpoekljclapbfaaW.PrintLast

theorem bt_drop {p : ByteArray} {i : Nat} {c : UInt8} {r : List UInt8} (h : p.data.toList.drop i = c :: r) : bt p (i : Int) = (c.toNat : Int) ∧ i < p.size ∧ p.data.toList.drop (i + 1) = r := by
  have hl : i < p.data.toList.length := by
    have := congrArg List.length h
    simp only [List.length_drop, List.length_cons] at this
    omega
  have hz : i < p.size := hl
  have hc : p.data.toList[i]'hl = c := by
    have := List.drop_eq_getElem_cons hl
    rw [h] at this
    exact (List.cons.inj this).1.symm
  refine ⟨?_, hz, ?_⟩
  · unfold bt
    rw [dif_pos (show (i : Int).toNat < p.size from hz)]
    show ((p.data[i]).toNat : Int) = _
    rw [← hc, Array.getElem_toList]
  · have := List.drop_eq_getElem_cons hl
    rw [h] at this
    exact (List.cons.inj this).2.symm
theorem drop_nil {p : ByteArray} {i : Nat} (h : p.data.toList.drop i = []) : p.size ≤ i := List.drop_eq_nil_iff.mp h
theorem neC {c : UInt8} (d : UInt8) (n : Int) (hn : (d.toNat : Int) = n) (h : ¬ c = d) : ¬ ((c.toNat : Int) = n) := by
  intro e; exact h (UInt8.toNat_inj.mp (by omega))

def endAt (i : Nat) : Option (List UInt8 × List UInt8) → Option Int
  | none => some 0
  | some (t, _) => some ((i + t.length + 1 : Nat) : Int)

theorem set_l0 (p : ByteArray) (hp : p.size < 1099511627776) (first : Nat) : ∀ (n i k : Nat), first ≤ i → p.size - i ≤ n → 2 * n + 2 ≤ k →
    glob_set.l0 k p (i : Int) (first : Int) = endAt i (gSplit (decide (i = first)) (p.data.toList.drop i)) := by
  intro n
  induction n using Nat.strongRecOn with
  | _ n ih =>
    intro i k hf hn hk
    obtain ⟨k, rfl⟩ : ∃ m, k = m + 1 := ⟨k - 1, by omega⟩
    cases hd : p.data.toList.drop i with
    | nil =>
      have := drop_nil hd
      simp only [glob_set.l0]
      rw [if_neg (by omega)]
      simp [gSplit, endAt]
    | cons c r =>
      obtain ⟨hb, hi, hr⟩ := bt_drop hd
      obtain ⟨k, rfl⟩ : ∃ m, k = m + 1 := ⟨k - 1, by omega⟩
      have w1 : wrap64 ((i : Int) + 1) = ((i + 1 : Nat) : Int) := by unfold wrap64; omega
      have w2 : wrap64 (((i + 1 : Nat) : Int) + 1) = ((i + 2 : Nat) : Int) := by unfold wrap64; omega
      -- where the byte does not end the set
      have go : ¬ (c = 93 ∧ decide (i = first) = false) → (if 0 ≤ (i : Int) then (if (i : Int) < (p.size : Int) then (if (bt p i) = 92 then (if (wrap64 ((i : Int) + 1)) < (p.size : Int) then (glob_set.l0 k p (wrap64 ((wrap64 ((i : Int) + 1)) + 1)) first) else (glob_set.l0 k p (wrap64 ((i : Int) + 1)) first)) else (glob_set.l0 k p (wrap64 ((i : Int) + 1)) first)) else (none)) else (none)) = endAt i (gSplit (decide (i = first)) (c :: r)) := by
        intro hc
        rw [if_pos (by omega), if_pos (by omega), hb, w1, w2]
        have i1 := ih (p.size - (i + 1)) (by omega) (i + 1) k (by omega) (Nat.le_refl _) (by omega)
        rw [hr, decide_eq_false (show ¬ i + 1 = first by omega)] at i1
        cases r with
        | nil =>
          have hz := drop_nil hr
          have e : gSplit (decide (i = first)) [c] = none := by simp only [gSplit]; rw [if_neg hc]
          rw [e, if_neg (show ¬ (((i + 1 : Nat) : Int) < (p.size : Int)) by omega), i1]
          split <;> simp [gSplit, endAt]
        | cons d r =>
          obtain ⟨_, hi1, hr2⟩ := bt_drop hr
          have i2 := ih (p.size - (i + 2)) (by omega) (i + 2) k (by omega) (Nat.le_refl _) (by omega)
          rw [show i + 2 = i + 1 + 1 from rfl, hr2, decide_eq_false (show ¬ i + 1 + 1 = first by omega)] at i2
          simp only [gSplit]
          rw [if_neg hc, if_pos (show (((i + 1 : Nat) : Int) < (p.size : Int)) by omega)]
          by_cases hq : c = 92
          · subst hq
            rw [if_pos (by rfl), if_pos rfl, show i + 2 = i + 1 + 1 from rfl, i2]
            cases gSplit false r with
            | none => rfl
            | some q => simp [endAt]; omega
          · rw [if_neg (neC 92 92 rfl hq), if_neg hq, i1]
            cases gSplit false (d :: r) with
            | none => rfl
            | some q => simp [endAt]; omega
      simp only [glob_set.l0, glob_set.j3]
      rw [if_pos (show (i : Int) < (p.size : Int) by omega), if_pos (show 0 ≤ (i : Int) by omega), hb]
      by_cases h93 : c = 93
      · subst h93
        rw [if_pos (by rfl)]
        by_cases hif : i = first
        · have e : decide ((i : Int) > (first : Int)) = false := by simp; omega
          rw [e, if_neg (by decide)]
          have := go (by simp [hif])
          rw [hb] at this
          exact this
        · have e : decide ((i : Int) > (first : Int)) = true := by simp; omega
          rw [e, if_pos rfl, w1]
          have hg : gSplit (decide (i = first)) (93 :: r) = some ([], r) := by
            rw [decide_eq_false hif]
            cases r <;> simp [gSplit]
          rw [hg]
          simp [endAt]
      · rw [if_neg (neC 93 93 rfl h93), if_neg (by decide)]
        have := go (fun e => h93 e.1)
        rw [hb] at this
        exact this

theorem set_is (p : ByteArray) (hp : p.size < 1099511627776) (l : List UInt8) (h : p.data.toList = 91 :: l) (k : Nat) (hk : 2 * p.size + 4 ≤ k) :
    glob_set.f k p = match gloSet l with | none => some 0 | some (st, _) => some ((st.length + 2 : Nat) : Int) := by
  have hz : p.size = l.length + 1 := size_cons h
  have d1 : p.data.toList.drop 1 = l := by rw [h]; rfl
  have d2 : p.data.toList.drop 2 = l.tail := by rw [h]; cases l <;> rfl
  obtain ⟨k, rfl⟩ : ∃ m, k = m + 2 := ⟨k - 2, by omega⟩
  have l1 := set_l0 p hp 1 p.size 1 k (Nat.le_refl _) (by omega) (by omega)
  have l2 := set_l0 p hp 2 p.size 2 k (Nat.le_refl _) (by omega) (by omega)
  rw [d1, decide_eq_true rfl] at l1
  rw [d2, decide_eq_true rfl] at l2
  have w1 : wrap64 ((1 : Int) + 1) = ((2 : Nat) : Int) := by unfold wrap64; omega
  have hj : ∀ b, glob_set.j0 (k + 2) p 1 b = if b = true then glob_set.l0 k p ((2 : Nat) : Int) ((2 : Nat) : Int) else glob_set.l0 k p ((1 : Nat) : Int) ((1 : Nat) : Int) := by
    intro b
    simp only [glob_set.j0, glob_set.j1, w1]
    rfl
  have hf : glob_set.f (k + 2) p = glob_set.j0 (k + 2) p 1 (isNot l) := by
    unfold glob_set.f
    cases l with
    | nil => rw [if_neg (by rw [hz]; decide)]; rfl
    | cons c l =>
      rw [if_pos (by rw [hz]; simp; omega), bt_cons1 h]
      by_cases h33 : c = 33
      · subst h33; rw [if_pos (by rfl)]; rfl
      · rw [if_neg (neC 33 33 rfl h33)]
        congr 1
        simp only [isNot, beq_eq_false_iff_ne.mpr h33, Bool.false_or]
        by_cases h94 : c = 94
        · subst h94; rfl
        · rw [beq_eq_false_iff_ne.mpr (neC 94 94 rfl h94)]; exact (beq_eq_false_iff_ne.mpr h94).symm
  rw [hf, hj]
  unfold gloSet behindNot
  cases hn : isNot l with
  | true =>
    rw [if_pos rfl, l2]
    simp only [if_pos trivial]
    cases gSplit true l.tail with
    | none => rfl
    | some q =>
      have : 1 ≤ l.length := by cases l <;> simp [isNot] at hn ⊢
      simp [endAt]
      omega
  | false =>
    rw [if_neg (by decide), l1]
    simp only [Bool.false_eq_true, if_false]
    cases gSplit true l with
    | none => rfl
    | some q => simp [endAt]; omega

theorem oneB_first (l : List UInt8) : oneB l = ((firstOf l).1, l.drop (firstOf l).2) := by
  match l with
  | [] => rfl
  | [c] => rfl
  | c :: d :: r => simp only [oneB, firstOf]; split <;> rfl
theorem found_is (g : Bool → Option Bool) (x : Bool) (lo hi c : UInt8) :
    (if x = true then g true else (if (lo.toNat : Int) ≤ (c.toNat : Int) then g (decide ((c.toNat : Int) ≤ (hi.toNat : Int))) else g false)) = g (x || (decide (lo ≤ c) && decide (c ≤ hi))) := by
  have e1 : ((lo.toNat : Int) ≤ (c.toNat : Int)) ↔ lo ≤ c := by rw [UInt8.le_iff_toNat_le]; omega
  have e2 : ((c.toNat : Int) ≤ (hi.toNat : Int)) ↔ c ≤ hi := by rw [UInt8.le_iff_toNat_le]; omega
  cases x with
  | true => rfl
  | false =>
    rw [if_neg (by decide)]
    by_cases h : lo ≤ c
    · rw [if_pos (e1.mpr h), decide_eq_true h, Bool.false_or, Bool.true_and, decide_eq_decide.mpr e2]
    · rw [if_neg (fun e => h (e1.mp e)), decide_eq_false h]; rfl


theorem in_l0 (c : UInt8) (nt : Bool) : ∀ (m k : Nat) (s : ByteArray) (x : Bool), s.size < m → m ≤ k → s.size < 1099511627776 →
    glob_in.l0 k s (c.toNat : Int) nt x = some ((x || (gItems m s.data.toList).any (fun p => decide (p.1 ≤ c) && decide (c ≤ p.2))) != nt) := by
  intro m
  induction m with
  | zero => intro k s x h; omega
  | succ m ih =>
    intro k s x hm hk hz
    obtain ⟨k, rfl⟩ : ∃ j, k = j + 1 := ⟨k - 1, by omega⟩
    have ihk := fun s x => ih k s x
    clear ih
    simp only [glob_in.l0]
    generalize glob_in.l0 k = L at ihk ⊢
    cases hs : s.data.toList with
    | nil =>
      rw [if_pos (by rw [Lib.toList_data]; exact hs)]
      simp [gItems]
    | cons c0 r =>
      have hne : s.data.toList ≠ [] := by rw [hs]; simp
      have hsz := size_cons hs
      have hu := unit_is s hne
      have ho := oneB_first s.data.toList
      have hp := first_pos _ hne
      have hle := first_le s.data.toList
      have hlen : s.data.toList.length = s.size := rfl
      rw [hs] at hu ho hp hle hlen
      generalize hfo : firstOf (c0 :: r) = fo at hu ho hp hle
      obtain ⟨b, n⟩ := fo
      simp only at hu ho hp hle
      rw [if_neg (by rw [Lib.toList_data, hs]; simp), hu]
      simp only [Option.bind_some]
      rw [if_pos (by omega), if_pos (by omega), Int.toNat_natCast]
      have hcut : (s.extract n s.size).data.toList = (c0 :: r).drop n := by rw [← hs]; exact Lib.extract_to_end s n
      have hcz : (s.extract n s.size).size = s.size - n := by simp
      generalize hs1 : s.extract n s.size = s1 at hcut hcz ⊢
      have hgi : gItems (m + 1) (c0 :: r) = match dash ((c0 :: r).drop n) with
          | some l => (b, (oneB l).1) :: gItems m (oneB l).2
          | none => (b, b) :: gItems m ((c0 :: r).drop n) := by
        rw [gItems, ho]
        rfl
      rw [hgi, ← hcut]
      have plainArm : dash s1.data.toList = none → (if x = true then (L s1 (c.toNat : Int) nt true) else (if (b.toNat : Int) ≤ (c.toNat : Int) then (L s1 (c.toNat : Int) nt (decide ((c.toNat : Int) ≤ (b.toNat : Int)))) else (L s1 (c.toNat : Int) nt false))) = some ((x || ((match dash s1.data.toList with
          | some l => (b, (oneB l).1) :: gItems m (oneB l).2
          | none => (b, b) :: gItems m s1.data.toList)).any (fun p => decide (p.1 ≤ c) && decide (c ≤ p.2))) != nt) := by
        intro hd
        rw [hd, found_is (fun y => L s1 (c.toNat : Int) nt y) x b b c, ihk s1 _ (by omega) (by omega) (by omega)]
        simp only [List.any_cons, Bool.or_assoc]
      by_cases h1 : s1.size > 1
      · rw [if_pos (by omega), if_pos (by omega)]
        match hl : s1.data.toList with
        | [] => exfalso; have := size_cons hl; simp only [List.length_nil] at this; omega
        | [a] => exfalso; have := size_cons hl; simp only [List.length_cons, List.length_nil] at this; omega
        | a :: y :: u =>
          rw [bt_cons0 hl]
          by_cases ha : a = 45
          · subst ha
            rw [if_pos (by rfl), if_pos (by omega)]
            have hcut2 : (s1.extract 1 s1.size).data.toList = y :: u := by rw [Lib.extract_to_end, hl]; rfl
            have hu2 := unit_is (s1.extract 1 s1.size) (by rw [hcut2]; simp)
            have ho2 := oneB_first (y :: u)
            have hp2 := first_pos (y :: u) (by simp)
            have hle2 := first_le (y :: u)
            have hz1 := size_cons hl
            rw [hcut2] at hu2
            generalize firstOf (y :: u) = fo at hu2 ho2 hp2 hle2
            obtain ⟨b2, n2⟩ := fo
            simp only at hu2 ho2 hp2 hle2
            simp only [List.length_cons] at hz1 hle2
            have w : wrap64 (1 + (n2 : Int)) = ((1 + n2 : Nat) : Int) := by unfold wrap64; omega
            rw [hu2, Option.bind_some, w, if_pos (by omega), if_pos (by omega), Int.toNat_natCast]
            have hcut3 : (s1.extract (1 + n2) s1.size).data.toList = (y :: u).drop n2 := by
              rw [Lib.extract_to_end, hl, Nat.add_comm]; rfl
            have hcz3 : (s1.extract (1 + n2) s1.size).size = s1.size - (1 + n2) := by simp
            rw [found_is (fun z => L (s1.extract (1 + n2) s1.size) (c.toNat : Int) nt z) x b b2 c, ihk _ _ (by omega) (by omega) (by omega), hcut3]
            simp only [dash, if_pos trivial, ho2, List.any_cons, Bool.or_assoc]
          · rw [if_neg (neC 45 45 rfl ha)]
            rw [hl] at plainArm
            exact plainArm (by simp [dash, ha])
      · rw [if_neg (by omega)]
        refine plainArm ?_
        match hl : s1.data.toList with
        | [] => rfl
        | [a] => rfl
        | a :: y :: u => exfalso; have := size_cons hl; simp only [List.length_cons] at this; omega

theorem in_is (s : ByteArray) (c : UInt8) (hz : s.size < 1099511627776) (k : Nat) (hk : s.size + 4 ≤ k) : glob_in.f k s (c.toNat : Int) = some (inF s.data.toList c) := by
  obtain ⟨k, rfl⟩ : ∃ m, k = m + 2 := ⟨k - 2, by omega⟩
  have hj : ∀ b : Bool, (b = true → 1 ≤ s.size) → glob_in.j0 (k + 2) s (c.toNat : Int) b = some (setF b (gItems (s.size + 1) (if b = true then s.data.toList.tail else s.data.toList)) c) := by
    intro b hb
    simp only [glob_in.j0, glob_in.j1]
    cases b with
    | true =>
      have h1 := hb rfl
      rw [if_pos rfl, if_pos (by omega), in_l0 c true (s.size + 1) k _ false (by simp; omega) (by omega) (by simp; omega), Lib.extract_to_end]
      simp [setF]
    | false =>
      rw [if_neg (by decide), in_l0 c false (s.size + 1) k _ false (by omega) (by omega) hz]
      simp [setF]
  have hlen : s.data.toList.length = s.size := rfl
  unfold inF behindNot
  rw [hlen]
  unfold glob_in.f
  cases hs : s.data.toList with
  | nil =>
    rw [if_pos (by rw [Lib.toList_data]; exact hs), hj false (fun h => absurd h (by decide)), hs]
    rfl
  | cons c0 r =>
    have hsz := size_cons hs
    rw [if_neg (by rw [Lib.toList_data, hs]; simp), if_pos (by rw [hsz]; simp), bt_cons0 hs]
    have h1 : 1 ≤ s.size := by rw [hsz]; simp
    by_cases h33 : c0 = 33
    · subst h33; rw [if_pos (by rfl), hj true (fun _ => h1), hs]; rfl
    · rw [if_neg (neC 33 33 rfl h33), hj _ (fun _ => h1), hs]
      have : ((c0.toNat : Int) == 94) = isNot (c0 :: r) := by
        simp only [isNot, beq_eq_false_iff_ne.mpr h33, Bool.false_or]
        by_cases h94 : c0 = 94
        · subst h94; rfl
        · rw [beq_eq_false_iff_ne.mpr (neC 94 94 rfl h94)]; exact (beq_eq_false_iff_ne.mpr h94).symm
      rw [this]
end Go.Proofs.Ytpoekljclapbfaa.Gs
