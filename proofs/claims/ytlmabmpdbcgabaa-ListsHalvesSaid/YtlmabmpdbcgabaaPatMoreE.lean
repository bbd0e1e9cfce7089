/- Plain facts on patterns: what Of, Match, Put answer always; that the document's Match, Put, Replace are the same. -/
import Derived.Test.YtlmabmpdbcgabaaPatPlainE
namespace Go.Proofs.Ytlmabmpdbcgabaa.Pure
open Go.RowKit Go.Proofs.Ytlmabmpdbcgabaa.P Go.Proofs.Ytlmabmpdbcgabaa.G Go.Proofs.YtlmabmpdbcgabaaW.PrintWords Go.Proofs.YtlmabmpdbcgabaaW.PrintLast

theorem ofL_size : ∀ (f : Nat) (pre l : List UInt8), (ofL f pre l).2.1.length + (ofL f pre l).2.2.length ≤ pre.length + l.length := by
  intro f
  induction f with
  | zero => intro pre l; simp [ofL]
  | succ f ih =>
    intro pre l
    obtain ⟨h0, h1⟩ := idx_lt l 37
    by_cases hn : Lib.indexByte l 37 < 0
    · rw [ofL_none hn]; simp
    · obtain ⟨n, hX⟩ : ∃ n : Nat, Lib.indexByte l 37 = (n : Int) := ⟨_, (Int.toNat_of_nonneg (by omega)).symm⟩
      have hle := stopAt_le l n
      have hnl : n < l.length := by omega
      by_cases hp : (n - stopAt l n) % 2 = 0
      · rw [ofL_even hX rfl hp]; simp; omega
      · rw [ofL_odd hX rfl hp]
        have h := ih (pre ++ l.take (stopAt l n + (n - stopAt l n) / 2) ++ [37]) (l.drop (n + 1))
        simp at h ⊢
        omega

theorem of_some (s : ByteArray) (h : s.size ≤ 140737488355328) : ∃ p, pattern_Of.f s = some p ∧ p.2.1.size + p.2.2.size ≤ s.size := by
  refine ⟨_, by unfold pattern_Of.f; rw [if_pos h], ?_⟩
  have h1 := ofL_size (s.size + 1) [] s.data.toList
  have h2 : s.data.toList.length = s.size := rfl
  have e1 : (⟨(ofS s).2.1.toArray⟩ : ByteArray).size = (ofL (s.size + 1) [] s.data.toList).2.1.length := rfl
  have e2 : (⟨(ofS s).2.2.toArray⟩ : ByteArray).size = (ofL (s.size + 1) [] s.data.toList).2.2.length := rfl
  show (⟨(ofS s).2.1.toArray⟩ : ByteArray).size + (⟨(ofS s).2.2.toArray⟩ : ByteArray).size ≤ s.size
  rw [e1, e2]
  simp at h1
  omega

theorem bind_id {α : Type} (x : Option α) : (x.bind fun t => some t) = x := by cases x <;> rfl

theorem has_eq (a b : ByteArray) : strings_HasPrefix.f a b = wainwrightref01_Has.f a b := by
  unfold strings_HasPrefix.f stringslite_HasPrefix.f wainwrightref01_Has.f; rw [bind_id]
theorem ends_eq (a b : ByteArray) : strings_HasSuffix.f a b = wainwrightref01_Ends.f a b := by
  unfold strings_HasSuffix.f stringslite_HasSuffix.f wainwrightref01_Ends.f; rw [bind_id]
theorem match_eq (b : Bool) (p q w : ByteArray) : wainwrightref02_Match.f b p q w = pattern_Pattern_Match.f b p q w := by
  unfold wainwrightref02_Match.f pattern_Pattern_Match.f
  rw [has_eq, ends_eq]

theorem has_some (a b : ByteArray) : wainwrightref01_Has.f a b = some (decide (b.size ≤ a.size) && ((a.extract 0 b.size).toList == b.toList)) := by
  unfold wainwrightref01_Has.f
  by_cases h : b.size ≤ a.size
  · rw [if_pos (by omega), if_pos (by omega), if_pos (by omega)]; simp [h]
  · rw [if_neg (by omega)]; simp [h]
theorem ends_some (a b : ByteArray) (ha : a.size ≤ 4611686018427387904) : wainwrightref01_Ends.f a b = some (decide (b.size ≤ a.size) && ((a.extract (a.size - b.size) a.size).toList == b.toList)) := by
  unfold wainwrightref01_Ends.f
  by_cases h : b.size ≤ a.size
  · have e : wrap64 ((a.size : Int) - (b.size : Int)) = ((a.size - b.size : Nat) : Int) := by rw [w64 (by omega) (by omega)]; omega
    rw [if_pos (by omega), e, if_pos (by omega), if_pos (by omega)]; simp [h]
  · rw [if_neg (by omega)]; simp [h]

/-- What Match answers, outright. -/
theorem match_is (b : Bool) (p q w : ByteArray) (hw : w.size ≤ 4611686018427387904) (hpq : p.size + q.size ≤ 4611686018427387904) :
    pattern_Pattern_Match.f b p q w = some (if b = true then
      (if w.size < p.size + q.size then ((⟨#[]⟩ : ByteArray), false)
       else if (w.extract 0 p.size).toList = p.toList ∧ (w.extract (w.size - q.size) w.size).toList = q.toList then (w.extract p.size (w.size - q.size), true) else ((⟨#[]⟩ : ByteArray), false))
      else ((⟨#[]⟩ : ByteArray), (w.toList == p.toList))) := by
  unfold pattern_Pattern_Match.f
  cases b
  · simp
  · simp only [if_true]
    have e : wrap64 ((p.size : Int) + (q.size : Int)) = ((p.size + q.size : Nat) : Int) := by rw [w64 (by omega) (by omega)]; omega
    rw [e]
    by_cases h : w.size < p.size + q.size
    · rw [if_pos (by omega), if_pos h]
    · have e2 : wrap64 ((w.size : Int) - (q.size : Int)) = ((w.size - q.size : Nat) : Int) := by rw [w64 (by omega) (by omega)]; omega
      rw [if_neg (by omega), if_neg h, has_eq, has_some, ends_eq, ends_some w q hw, e2]
      have d1 : decide (p.size ≤ w.size) = true := decide_eq_true (by omega)
      have d2 : decide (q.size ≤ w.size) = true := decide_eq_true (by omega)
      rw [d1, d2, Bool.true_and, Bool.true_and, Option.bind_some, Option.bind_some]
      by_cases h1 : (w.extract 0 p.size).toList = p.toList
      · rw [if_pos (beq_iff_eq.mpr h1)]
        by_cases h2 : (w.extract (w.size - q.size) w.size).toList = q.toList
        · rw [if_pos (beq_iff_eq.mpr h2), if_pos (by omega), if_pos (by omega), if_pos (by omega), if_pos ⟨h1, h2⟩]
          rfl
        · rw [if_neg (by simpa using h2), if_neg (fun h => h2 h.2)]
      · rw [if_neg (by simpa using h1), if_neg (fun h => h1 h.1)]

theorem match_some (b : Bool) (p q w : ByteArray) (hw : w.size ≤ 4611686018427387904) (hpq : p.size + q.size ≤ 4611686018427387904) :
    ∃ m, pattern_Pattern_Match.f b p q w = some m ∧ m.1.size ≤ w.size := by
  refine ⟨_, match_is b p q w hw hpq, ?_⟩
  have h0 : (⟨#[]⟩ : ByteArray).size ≤ w.size := Nat.zero_le _
  cases b
  · exact h0
  · simp only [if_true]
    split
    · exact h0
    · split
      · simp; omega
      · exact h0
end Go.Proofs.Ytlmabmpdbcgabaa.Pure
