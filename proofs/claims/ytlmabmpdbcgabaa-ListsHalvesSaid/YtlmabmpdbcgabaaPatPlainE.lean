/- (for the lists' seat) Plain law of patterns: the document's reading of a pattern, byte by byte, comes to ours, from percent sign to percent sign. -/
import Derived.Test.YtlmabmpdbcgabaaListsBase
import Derived.Test.YtlmabmpdbcgabaaPatOf
namespace Go.Proofs.Ytlmabmpdbcgabaa.Pure
open Go.RowKit Go.Proofs.Ytlmabmpdbcgabaa.P Go.Proofs.Ytlmabmpdbcgabaa.G Go.Proofs.YtlmabmpdbcgabaaW.PrintWords Go.Proofs.YtlmabmpdbcgabaaW.PrintLast

/-- Byte by byte: what was read, how many backslashes stand at its end, what is left. -/
def refL (pre : List UInt8) (back : Nat) : List UInt8 → Bool × List UInt8 × List UInt8
  | [] => (false, pre, [])
  | c :: r =>
    if c = 92 then refL (pre ++ [c]) (back + 1) r
    else if c = 37 then
      (if back % 2 = 0 then (true, pre.take (pre.length - back + back / 2), r)
      else refL (pre.take (pre.length - back + back / 2) ++ [c]) 0 r)
    else refL (pre ++ [c]) 0 r

theorem idx_none {l : List UInt8} {c : UInt8} (h : c ∉ l) : Lib.indexByte l c < 0 := by
  induction l with
  | nil => simp [Lib.indexByte]
  | cons b l ih =>
    have h1 : (b == c) = false := by
      rw [beq_eq_false_iff_ne]; intro e; exact h (by simp [e])
    have h2 := ih (fun e => h (List.mem_cons_of_mem _ e))
    have h3 := (idx_lt l c).1
    have h4 : Lib.indexByte l c = -1 := by omega
    simp [Lib.indexByte, h1, h4]

theorem idx_at {l : List UInt8} {c : UInt8} : ∀ {j : Nat}, c ∉ l.take j → l[j]? = some c → Lib.indexByte l c = (j : Int) := by
  induction l with
  | nil => intro j _ h; simp at h
  | cons b l ih =>
    intro j hn hj
    cases j with
    | zero =>
      have e : b = c := by simpa using hj
      simp [Lib.indexByte, e]
    | succ j =>
      have h1 : (b == c) = false := by
        rw [beq_eq_false_iff_ne]; intro e; exact hn (by simp [e])
      have h2 := ih (j := j) (fun e => hn (by simp [e])) (by simpa using hj)
      have h3 : ((j : Int) == -1) = false := by rw [beq_eq_false_iff_ne]; omega
      simp [Lib.indexByte, h1, h2, h3]

theorem stop_92 {l : List UInt8} {j : Nat} (h : l[j]? = some 92) : stopAt l (j + 1) = stopAt l j := by
  simp only [stopAt, List.getD, h, Option.getD_some, if_true]
theorem stop_other {l : List UInt8} {j : Nat} {c : UInt8} (h : l[j]? = some c) (hc : c ≠ 92) : stopAt l (j + 1) = j + 1 := by
  simp only [stopAt, List.getD, h, Option.getD_some]; rw [if_neg hc]

theorem refL_of : ∀ (f : Nat) (l pre : List UInt8), l.length < f → ∀ (d j : Nat), j + d = l.length → 37 ∉ l.take j → refL (pre ++ l.take j) (j - stopAt l j) (l.drop j) = ofL f pre l := by
  intro f
  induction f with
  | zero => intro l pre h; omega
  | succ f ih =>
    intro l pre hf d
    induction d with
    | zero =>
      intro j hj hn
      have e1 : l.take j = l := List.take_of_length_le (by omega)
      have e2 : l.drop j = [] := List.drop_of_length_le (by omega)
      rw [e1] at hn ⊢
      rw [e2, ofL_none (idx_none hn)]
      rfl
    | succ d ihd =>
      intro j hj hn
      have hlt : j < l.length := by omega
      have hg : l[j]? = some l[j] := List.getElem?_eq_getElem hlt
      have hle := stopAt_le l j
      have htk : l.take (j + 1) = l.take j ++ [l[j]] := List.take_succ_eq_append_getElem hlt
      rw [List.drop_eq_getElem_cons hlt]
      by_cases h92 : l[j] = 92
      · have h := ihd (j + 1) (by omega) (by rw [htk, h92]; intro e; rcases List.mem_append.mp e with e | e; exact hn e; simp at e)
        rw [stop_92 (by rw [hg, h92]), htk, ← List.append_assoc, show j + 1 - stopAt l j = j - stopAt l j + 1 by omega] at h
        rw [← h]
        simp only [refL]
        rw [if_pos h92]
      · by_cases h37 : l[j] = 37
        · have hi := idx_at hn (by rw [hg, h37])
          have hlen : (pre ++ l.take j).length = pre.length + j := by simp; omega
          have hp : (pre ++ l.take j).take ((pre ++ l.take j).length - (j - stopAt l j) + (j - stopAt l j) / 2) = pre ++ l.take (stopAt l j + (j - stopAt l j) / 2) := by
            rw [hlen, List.take_append, List.take_of_length_le (by omega), List.take_take]
            congr 2
            omega
          simp only [refL]
          rw [if_neg h92, if_pos h37, hp]
          by_cases hb : (j - stopAt l j) % 2 = 0
          · rw [if_pos hb, ofL_even hi rfl hb]
          · rw [if_neg hb, ofL_odd hi rfl hb, h37]
            have h := ih (l.drop (j + 1)) (pre ++ l.take (stopAt l j + (j - stopAt l j) / 2) ++ [37]) (by simp; omega) (l.drop (j + 1)).length 0 (by omega) (by simp)
            simpa [stopAt] using h
        · have h := ihd (j + 1) (by omega) (by rw [htk]; intro e; rcases List.mem_append.mp e with e | e; exact hn e; simp at e; exact h37 e.symm)
          rw [stop_other hg h92, htk, ← List.append_assoc, Nat.sub_self] at h
          rw [← h]
          simp only [refL]
          rw [if_neg h92, if_neg h37]

theorem refL_ofS (s : ByteArray) : refL [] 0 s.data.toList = ofS s := by
  have h := refL_of (s.size + 1) s.data.toList [] (by have : s.data.toList.length = s.size := rfl; omega) s.data.toList.length 0 (by omega) (by simp)
  unfold ofS
  simpa [stopAt] using h

def toI (l : List UInt8) : List Int := l.map fun b => (b.toNat : Int)
theorem toI_snoc (l : List UInt8) (c : UInt8) : toI l ++ [(c.toNat : Int)] = toI (l ++ [c]) := by simp [toI]
theorem toI_length (l : List UInt8) : (toI l).length = l.length := by simp [toI]
theorem toI_take (l : List UInt8) (n : Nat) : (toI l).take n = toI (l.take n) := by simp [toI]
theorem str_toI (l : List UInt8) : strOfNums (toI l) = ⟨l.toArray⟩ := by
  unfold strOfNums toI
  congr 2
  rw [List.map_map]
  conv => rhs; rw [← List.map_id l]
  apply List.map_congr_left
  intro c _
  simp

theorem bt_get {s : ByteArray} {i : Nat} {c : UInt8} (h : s.data.toList[i]? = some c) : bt s (i : Int) = (c.toNat : Int) := by
  have hlt : i < s.data.toList.length := (List.getElem?_eq_some_iff.mp h).1
  have hlt2 : i < s.size := hlt
  unfold bt
  rw [dif_pos (by simpa using hlt2)]
  have e : s.data.toList[i] = c := (List.getElem?_eq_some_iff.mp h).2
  rw [← e]
  rfl

theorem w64 {n : Int} (h0 : -9223372036854775808 ≤ n) (h1 : n ≤ 9223372036854775807) : wrap64 n = n := by unfold wrap64; omega

def enc3 (p : Bool × List UInt8 × List UInt8) : Bool × ByteArray × ByteArray := (p.1, ⟨p.2.1.toArray⟩, ⟨p.2.2.toArray⟩)

theorem ref_l0 (s : ByteArray) (hs : s.size ≤ 140737488351232) : ∀ (d k i back : Nat) (pre : List UInt8), i + d = s.size → d < k → back ≤ pre.length → pre.length ≤ i →
    wainwrightref02_Of.l0 k s (toI pre) (back : Int) (i : Int) = some (enc3 (refL pre back (s.data.toList.drop i))) := by
  intro d
  induction d with
  | zero =>
    intro k i back pre hi hk hb hp
    obtain ⟨k, rfl⟩ : ∃ m, k = m + 1 := ⟨k - 1, by omega⟩
    have e2 : s.data.toList.drop i = [] := List.drop_of_length_le (by have : s.data.toList.length = s.size := rfl; omega)
    rw [e2]
    simp only [wainwrightref02_Of.l0]
    rw [if_neg (by omega), str_toI]
    rfl
  | succ d ih =>
    intro k i back pre hi hk hb hp
    obtain ⟨k, rfl⟩ : ∃ m, k = m + 1 := ⟨k - 1, by omega⟩
    have hlt : i < s.data.toList.length := by have : s.data.toList.length = s.size := rfl; omega
    have hg : s.data.toList[i]? = some s.data.toList[i] := List.getElem?_eq_getElem hlt
    have hbt := bt_get hg
    have hw : wrap64 ((i : Int) + 1) = ((i + 1 : Nat) : Int) := by rw [w64 (by omega) (by omega)]; rfl
    have hwb : wrap64 ((back : Int) + 1) = ((back + 1 : Nat) : Int) := by rw [w64 (by omega) (by omega)]; rfl
    rw [List.drop_eq_getElem_cons hlt]
    generalize s.data.toList[i] = c at hg hbt ⊢
    have hc := c.toNat_lt
    simp only [wainwrightref02_Of.l0]
    rw [if_pos (by omega), if_pos (by omega), hbt, toI_snoc, toI_length, hw, hwb]
    by_cases h92 : c = 92
    · rw [if_pos (by rw [h92]; rfl), if_pos (by omega), ih k (i + 1) (back + 1) (pre ++ [c]) (by omega) (by omega) (by simp; omega) (by simp; omega)]
      simp only [refL]; rw [if_pos h92]
    · have n92 : ¬ ((c.toNat : Int) = 92) := by
        intro e; exact h92 (UInt8.toNat_inj.mp (by have : (c.toNat : Int) = ((92 : UInt8).toNat : Int) := e; omega))
      rw [if_neg n92]
      by_cases h37 : c = 37
      · have e1 : wrap64 (Int.tdiv (back : Int) 2) = ((back / 2 : Nat) : Int) := by
          rw [Int.tdiv_eq_ediv_of_nonneg (by omega), w64 (by omega) (by omega)]; omega
        have e2 : wrap64 (wrap64 ((pre.length : Int) - (back : Int)) + ((back / 2 : Nat) : Int)) = ((pre.length - back + back / 2 : Nat) : Int) := by
          rw [w64 (n := (pre.length : Int) - (back : Int)) (by omega) (by omega), w64 (by omega) (by omega)]; omega
        have e3 : Int.tmod (back : Int) 2 = ((back % 2 : Nat) : Int) := by
          rw [Int.tmod_eq_emod_of_nonneg (by omega)]; omega
        rw [if_pos (by rw [h37]; rfl), e1, e2, if_pos (by omega), if_pos (by omega), Option.bind_some, Int.toNat_natCast, toI_take, e3, str_toI, toI_length, toI_snoc]
        simp only [refL]
        rw [if_neg h92, if_pos h37]
        by_cases hb2 : back % 2 = 0
        · rw [if_pos (by omega), if_pos (by omega), if_pos (by omega), if_pos hb2]
          simp only [enc3, Int.toNat_natCast]
          rw [drop_eq]
        · rw [if_neg (by omega), if_neg hb2, if_pos (by have := List.length_take_le (pre.length - back + back / 2) pre; omega)]
          have h := ih k (i + 1) 0 (pre.take (pre.length - back + back / 2) ++ [c]) (by omega) (by omega) (by omega) (by simp; omega)
          exact h
      · have n37 : ¬ ((c.toNat : Int) = 37) := by
          intro e; exact h37 (UInt8.toNat_inj.mp (by have : (c.toNat : Int) = ((37 : UInt8).toNat : Int) := e; omega))
        rw [if_neg n37, if_pos (by omega)]
        have h := ih k (i + 1) 0 (pre ++ [c]) (by omega) (by omega) (by omega) (by simp; omega)
        simp only [refL]; rw [if_neg h92, if_neg h37]
        exact h

theorem refOf_eq (s : ByteArray) (hs : s.size ≤ 140737488351232) (k : Nat) (hk : s.size < k) : wainwrightref02_Of.f k s = pattern_Of.f s := by
  have h := ref_l0 s hs s.size k 0 0 [] (by omega) hk (by simp) (by simp)
  rw [List.drop_zero, refL_ofS] at h
  unfold wainwrightref02_Of.f pattern_Of.f
  rw [if_pos (by omega)]
  exact h
end Go.Proofs.Ytlmabmpdbcgabaa.Pure
