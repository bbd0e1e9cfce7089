/- What glob.next answers, and glob.Match's loop: patterns with sets. -/
import Derived.Test.YtpoekljclapbfaaGsSet
import Derived.Test.YtpoekljclapbfaaPx3
import Derived.Test.YtpoekljclapbfaaPx5
import Derived.Test.YtpoekljclapbfaaPx6
import Derived.Test.YtpoekljclapbfaaPx7
namespace Go.Proofs.Ytpoekljclapbfaa.Gs
open Go.RowKit Go.Proofs.Ytpoekljclapbfaa.P Go.Proofs.Ytpoekljclapbfaa.G Go.Proofs.Ytpoekljclapbfaa.P0 Go.Proofs.YtpoekljclapbfaaW.PrintWords Go.Proofs.YtpoekljclapbfaaW.PrintLast

def Pc.kind : Pc → Int
  | .star => 42
  | .any => 63
  | .lit _ => 0
  | .set _ => 91
def Pc.byte : Pc → Int
  | .lit c => (c.toNat : Int)
  | _ => 0
def Pc.txt : Pc → List UInt8
  | .set t => t
  | _ => []
theorem ext_mid {p : ByteArray} {c : UInt8} {st r : List UInt8} (h : p.data.toList = c :: (st ++ r)) : (p.extract 1 (st.length + 1)).data.toList = st := by
  rw [ByteArray.data_extract, Array.toList_extract, h]
  simp [List.extract]
theorem next_is {p : List UInt8} {t : Pc} {ts : List Pc} (hT : Toks p (t :: ts)) (x0 : ByteArray) (hx : x0.data.toList = p) (hz0 : x0.size < 1099511627776) :
    ∃ (n : Nat) (st : ByteArray), (∀ k, 2 * x0.size + 8 ≤ k → glob_next.f k x0 = some (t.kind, t.byte, st, (n : Int))) ∧ st.data.toList = t.txt ∧ st.size ≤ x0.size ∧ Toks (p.drop n) ts ∧ 1 ≤ n ∧ n ≤ p.length := by
  have hz := size_cons hx
  cases hT with
  | star h =>
    refine ⟨1, ⟨#[]⟩, fun k hk => ?_, rfl, Nat.zero_le _, by simpa using h, Nat.le_refl _, by simp⟩
    obtain ⟨k, rfl⟩ : ∃ m, k = m + 3 := ⟨k - 3, by omega⟩
    unfold glob_next.f
    rw [bt_cons0 hx, hz, if_pos (by simp), if_neg (by decide)]
    simp [glob_next.j0, glob_next.j1, Pc.kind, Pc.byte]
  | any h =>
    refine ⟨1, ⟨#[]⟩, fun k hk => ?_, rfl, Nat.zero_le _, by simpa using h, Nat.le_refl _, by simp⟩
    obtain ⟨k, rfl⟩ : ∃ m, k = m + 3 := ⟨k - 3, by omega⟩
    unfold glob_next.f
    rw [bt_cons0 hx, hz, if_pos (by simp), if_neg (by decide)]
    simp [glob_next.j0, glob_next.j1, Pc.kind, Pc.byte]
  | @quote c r _ h =>
    refine ⟨2, ⟨#[]⟩, fun k hk => ?_, rfl, Nat.zero_le _, by simpa using h, by omega, by simp⟩
    obtain ⟨k, rfl⟩ : ∃ m, k = m + 3 := ⟨k - 3, by omega⟩
    have hz2 : (1 : Int) < (x0.size : Int) := by rw [hz]; simp; omega
    unfold glob_next.f
    rw [if_pos (by omega), bt_cons0 hx, if_pos (by rfl), decide_eq_true (show (x0.size : Int) > 1 from hz2)]
    simp only [glob_next.j0]
    rw [if_pos trivial, if_pos hz2, bt_cons1 hx]
    rfl
  | @lit c r _ h42 h63 h91 h92 h =>
    refine ⟨1, ⟨#[]⟩, fun k hk => ?_, rfl, Nat.zero_le _, by simpa using h, Nat.le_refl _, by simp⟩
    obtain ⟨k, rfl⟩ : ∃ m, k = m + 3 := ⟨k - 3, by omega⟩
    have hz2 : (0 : Int) < (x0.size : Int) := by rw [hz]; simp
    have n42 : ¬ ((c.toNat : Int) = 42) := neC 42 42 rfl h42
    have n63 : ((c.toNat : Int) == 63) = false := beq_eq_false_iff_ne.mpr (neC 63 63 rfl h63)
    have e0 : glob_next.f (k + 3) x0 = glob_next.j0 (k + 3) x0 (c.toNat : Int) false := by
      unfold glob_next.f
      rw [if_pos hz2, bt_cons0 hx]
      by_cases hq : c = 92
      · have hr := h92 hq
        subst hr
        have : decide ((x0.size : Int) > 1) = false := decide_eq_false (by rw [hz]; simp)
        rw [this]
        split <;> rfl
      · rw [if_neg (neC 92 92 rfl hq)]
    have e1 : glob_next.j0 (k + 3) x0 (c.toNat : Int) false = glob_next.j1 (k + 2) x0 (c.toNat : Int) false := by
      simp only [glob_next.j0]
      rw [if_neg (by decide), if_neg n42, n63]
    rw [e0, e1]
    simp only [glob_next.j1]
    rw [if_neg (by decide)]
    by_cases hb : c = 91
    · subst hb
      rw [if_pos (by rfl), set_is x0 hz0 r hx (k + 1) (by omega), h91 rfl, Option.bind_some, if_neg (by decide), if_pos hz2, bt_cons0 hx]
      rfl
    · rw [if_neg (neC 91 91 rfl hb), if_pos hz2, bt_cons0 hx]
      rfl
  | @set l st r _ hg h =>
    have hl := glo_len hg
    have hd : (91 :: l).drop (st.length + 2) = r := by rw [hl]; simp
    have hm := ext_mid (p := x0) (c := 91) (st := st) (r := 93 :: r) (by rw [hx, hl])
    have hms : (x0.extract 1 (st.length + 1)).size = st.length := size_cons hm
    have hzl : x0.size = st.length + r.length + 2 := by rw [hz, hl]; simp <;> omega
    refine ⟨st.length + 2, x0.extract 1 (st.length + 1), fun k hk => ?_, hm, by omega, by rw [hd]; exact h, by omega, by rw [hl]; simp <;> omega⟩
    obtain ⟨k, rfl⟩ : ∃ m, k = m + 3 := ⟨k - 3, by omega⟩
    have w : wrap64 (((st.length + 2 : Nat) : Int) - 1) = ((st.length + 1 : Nat) : Int) := by unfold wrap64; omega
    have e0 : glob_next.f (k + 3) x0 = glob_next.j0 (k + 3) x0 91 false := by
      unfold glob_next.f
      rw [if_pos (by omega), bt_cons0 hx]
      rw [if_neg (by decide)]
      rfl
    have e1 : glob_next.j0 (k + 3) x0 91 false = glob_next.j1 (k + 2) x0 91 false := by
      simp only [glob_next.j0]
      rw [if_neg (by decide), if_neg (by decide)]
      rfl
    rw [e0, e1]
    simp only [glob_next.j1]
    rw [if_neg (by decide), if_pos (by trivial), set_is x0 hz0 l hx (k + 1) (by omega), hg, Option.bind_some, if_pos (by omega), w, if_pos (by omega), if_pos (by omega), Int.toNat_natCast]
    rfl

theorem one_is (t : Pc) (h : t.isStar = false) (k : Nat) (st : ByteArray) (n : Int) (b : UInt8) (hst : st.data.toList = t.txt) (hz : st.size < 1099511627776) (hk : st.size + 4 ≤ k) : glob_piece_one.f k t.kind t.byte st n (b.toNat : Int) = some (t.ok b) := by
  unfold glob_piece_one.f
  cases t with
  | star => exact absurd h (by decide)
  | any => rfl
  | lit c =>
    rw [if_neg (show ¬ (Pc.lit c).kind = 63 from (show ¬ (0 : Int) = 63 by decide)), if_neg (show ¬ (Pc.lit c).kind = 91 from (show ¬ (0 : Int) = 91 by decide))]
    simp only [Pc.byte]
    congr 1
    by_cases e : b = c
    · subst e; simp [Pc.ok]
    · have : ¬ ((b.toNat : Int) = (c.toNat : Int)) := neC c _ rfl e
      rw [beq_eq_false_iff_ne.mpr this]
      exact (beq_eq_false_iff_ne.mpr e).symm
  | set l =>
    rw [if_neg (show ¬ (Pc.set l).kind = 63 from (show ¬ (91 : Int) = 63 by decide)), if_pos (show (Pc.set l).kind = 91 from rfl), in_is st b hz k hk, Option.bind_some, hst]
    rfl

theorem toks_nil {p : List UInt8} (h : Toks p []) : p = [] := by cases h; rfl
theorem toks_ne {p : List UInt8} {t ts} (h : Toks p (t :: ts)) : p ≠ [] := by cases h <;> simp

theorem toList_nil (x : ByteArray) (h : x.data.toList = []) : x.toList = [] := by rw [Lib.toList_data]; exact h
theorem toList_ne (x : ByteArray) (h : x.data.toList ≠ []) : ¬ x.toList = [] := by rw [Lib.toList_data]; exact h
theorem cut1 {x : ByteArray} {c : UInt8} {s : List UInt8} (h : x.data.toList = c :: s) : (x.extract 1 x.size).data.toList = s := by
  rw [Lib.extract_to_end, h]; rfl

/-- Behind the last star: what was matched, as many parts as bytes. -/
def Behind (bts ts : List Pc) (rest s : List UInt8) : Prop :=
  ∃ (q : List Pc) (u : List UInt8), (∀ x ∈ q, x.isStar = false) ∧ bts = q ++ ts ∧ rest = u ++ s ∧ u.length = q.length

theorem match_l0 (N : Nat) (hN : N < 1099511627776) : ∀ (F k : Nat) (x0 x1 x5 x6 : ByteArray) (x7 : Bool) (ts bts : List Pc) (R : Nat),
    2 * x0.size + 2 + R * (2 * N + 4) ≤ F → F + 2 * N + 20 ≤ k → x0.size ≤ N → x5.size ≤ N →
    Toks x0.data.toList ts → (x7 = true → Toks x5.data.toList bts ∧ Behind bts ts x6.data.toList x1.data.toList ∧ x6.size ≤ R) → (x7 = false → x1.size < R) →
    glob_Match.l0 k x0 x1 x5 x6 x7 = some (mat ts x1.data.toList || (x7 && later bts x6.data.toList)) := by
  intro F
  induction F using Nat.strongRecOn with
  | _ F ih =>
  intro k x0 x1 x5 x6 x7 ts bts R hF hk hN0 hN5 hT h7 h8
  -- what is done where the parts do not go on
  have restart : ∀ k, F + 2 * N + 18 ≤ k + 1 → mat ts x1.data.toList = false →
      (if x7 = true then (if x6.toList = ([] : List UInt8) then some false else (if 1 ≤ (x6.size : Int) then (glob_Match.l0 k x5 (x6.extract 1 x6.size) x5 (x6.extract 1 x6.size) x7) else none)) else some false)
        = some (mat ts x1.data.toList || (x7 && later bts x6.data.toList)) := by
    intro k hk hm
    rw [hm, Bool.false_or]
    cases x7 with
    | false => rfl
    | true =>
      obtain ⟨hT5, hB, hR⟩ := h7 rfl
      rw [if_pos rfl, Bool.true_and]
      cases h6 : x6.data.toList with
      | nil => rw [if_pos (toList_nil x6 h6)]; rfl
      | cons c r =>
        have hz : x6.size = r.length + 1 := size_cons h6
        obtain ⟨R, rfl⟩ : ∃ m, R = m + 1 := ⟨R - 1, by omega⟩
        have e1 := Nat.add_mul R 1 (2 * N + 4)
        rw [if_neg (toList_ne x6 (by rw [h6]; simp)), if_pos (by omega)]
        have hc := cut1 h6
        have hcs : (x6.extract 1 x6.size).size = r.length := by simp; omega
        rw [ih (2 * x5.size + 2 + R * (2 * N + 4)) (by omega) k x5 (x6.extract 1 x6.size) x5 (x6.extract 1 x6.size) true bts bts R (Nat.le_refl _) (by omega) hN5 hN5 hT5
          (fun _ => ⟨hT5, ⟨[], [], by simp, rfl, rfl, rfl⟩, by omega⟩) (fun h => absurd h (by decide)), hc, Bool.true_and, ← any_later]
        rfl
  obtain ⟨k, rfl⟩ : ∃ m, k = m + 1 := ⟨k - 1, by omega⟩
  simp only [glob_Match.l0]
  cases ts with
  | nil =>
    have h0 := toks_nil hT
    rw [if_pos (toList_nil x0 h0)]
    cases h1 : x1.data.toList with
    | nil => rw [if_pos (toList_nil x1 h1)]; simp [mat]
    | cons c s =>
      have r := restart k (by omega) (by rw [h1]; rfl)
      rw [h1] at r
      rw [if_neg (toList_ne x1 (by rw [h1]; simp))]
      exact r
  | cons t ts =>
    obtain ⟨n, st, hn, hst, hsz, hT', hn1, hn2⟩ := next_is hT x0 rfl (by omega)
    have hz0 : x0.data.toList.length = x0.size := rfl
    obtain ⟨m, rfl⟩ : ∃ m, k = m + 3 := ⟨k - 3, by omega⟩
    rw [if_neg (toList_ne x0 (toks_ne hT)), hn (m + 3) (by omega), Option.bind_some]
    simp only []
    have hcut : (x0.extract n x0.size).data.toList = x0.data.toList.drop n := Lib.extract_to_end x0 n
    have hcz : (x0.extract n x0.size).size = x0.size - n := by simp
    cases hs : t.isStar with
    | true =>
      have ht : t = .star := by cases t <;> first | rfl | exact Bool.noConfusion hs
      subst ht
      rw [if_pos (by rfl), if_pos (by omega), if_pos (by omega), Int.toNat_natCast]
      have hlt : 2 * (x0.size - n) + 2 + x1.size * (2 * N + 4) < F := by
        cases x7 with
        | false =>
          have := h8 rfl
          have := Nat.mul_le_mul_right (2 * N + 4) (show x1.size + 1 ≤ R by omega)
          rw [Nat.succ_mul] at this
          omega
        | true =>
          obtain ⟨_, ⟨q, u, _, _, hr, _⟩, hR⟩ := h7 rfl
          have h6 : x6.data.toList.length = u.length + x1.data.toList.length := by rw [hr]; simp
          have h61 : x6.data.toList.length = x6.size := rfl
          have h11 : x1.data.toList.length = x1.size := rfl
          have := Nat.mul_le_mul_right (2 * N + 4) (show x1.size ≤ R by omega)
          omega
      rw [ih _ hlt (m + 3) (x0.extract n x0.size) x1 (x0.extract n x0.size) x1 true ts ts x1.size (by rw [hcz]; exact Nat.le_refl _) (by omega) (by omega) (by omega) (by rw [hcut]; exact hT')
        (fun _ => ⟨by rw [hcut]; exact hT', ⟨[], [], by simp, rfl, rfl, rfl⟩, Nat.le_refl _⟩) (fun h => absurd h (by decide))]
      congr 1
      rw [Bool.true_and, ← any_later]
      simp only [mat]
      cases hl : (x7 && later bts x6.data.toList) with
      | false => rw [Bool.or_false]
      | true =>
        rw [Bool.and_eq_true] at hl
        obtain ⟨_, ⟨q, u, hq, hb, hr, hu⟩, _⟩ := h7 hl.1
        obtain ⟨v, hv, hm⟩ := later_iff _ _ hl.2
        rw [hb] at hm
        rw [hr] at hv
        rw [drop_old hq hu hv hv.length_le hm]
        rfl
    | false =>
      have hk42 : ¬ t.kind = 42 := by cases t <;> first | exact Bool.noConfusion hs | decide | exact (show ¬ (0 : Int) = 42 by decide) | exact (show ¬ (91 : Int) = 42 by decide)
      rw [if_neg hk42]
      cases h1 : x1.data.toList with
      | nil =>
        rw [if_pos (toList_nil x1 h1)]
        simp only [glob_Match.j2]
        have r := restart (m + 2) (by omega) (by rw [h1, mat_one hs])
        rw [h1] at r
        rw [if_neg (by decide)]
        exact r
      | cons c s =>
        have hz1 : x1.size = s.length + 1 := size_cons h1
        rw [if_neg (toList_ne x1 (by rw [h1]; simp)), if_pos (by omega), bt_cons0 h1, one_is t hs _ st _ c hst (by omega) (by omega), Option.bind_some]
        simp only [glob_Match.j2]
        cases hok : t.ok c with
        | false =>
          have r := restart (m + 2) (by omega) (by rw [h1, mat_one hs]; simp [hok])
          rw [h1] at r
          rw [if_neg (by decide)]
          exact r
        | true =>
          rw [if_pos rfl, if_pos (by omega), if_pos (by omega), if_pos (by omega), Int.toNat_natCast]
          have hc := cut1 h1
          have hcs : (x1.extract 1 x1.size).size = s.length := by simp; omega
          rw [ih (2 * (x0.size - n) + 2 + R * (2 * N + 4)) (by omega) (m + 2) (x0.extract n x0.size) (x1.extract 1 x1.size) x5 x6 x7 ts bts R (by rw [hcz]; exact Nat.le_refl _) (by omega) (by omega) hN5 (by rw [hcut]; exact hT')
            (fun h => by
              obtain ⟨a, ⟨q, u, hq, hb, hr, hu⟩, d⟩ := h7 h
              refine ⟨a, ⟨q ++ [t], u ++ [c], ?_, by rw [hb]; simp, by rw [hr, h1, hc]; simp, by simp [hu]⟩, d⟩
              intro x hx
              rcases List.mem_append.mp hx with hx | hx
              · exact hq x hx
              · simp at hx; rw [hx]; exact hs)
            (fun h => by have := h8 h; omega), hc, mat_one hs]
          simp [hok]
end Go.Proofs.Ytpoekljclapbfaa.Gs
