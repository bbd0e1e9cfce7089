/- Plain facts for PatternPuts: a range over a text that meets neither % nor \ tells that none is there; what Of, Match, Replace then answer. -/
import Derived.Test.YtabdjijlmiobhaaPatMore
import Derived.Laws.RangeAny
import Derived.Laws.RangeString
namespace Go.Proofs.Ytabdjijlmiobhaa.Pure
open Go.RowKit Go.Proofs.Ytabdjijlmiobhaa.P Go.Proofs.Ytabdjijlmiobhaa.G Go.Proofs.Ytabdjijlmiobhaa.P0 Go.Proofs.YtabdjijlmiobhaaW.PrintWords Go.Proofs.YtabdjijlmiobhaaW.PrintLast

/-- No % and no \ among the first n bytes. -/
def Clean (s : ByteArray) (n : Nat) : Prop := ∀ j (h : j < s.size), j < n → (s[j]'h).toNat ≠ 37 ∧ (s[j]'h).toNat ≠ 92
theorem clean_zero (s : ByteArray) : Clean s 0 := fun _ _ h => absurd h (Nat.not_lt_zero _)

theorem get_bang (s : ByteArray) (j : Nat) (h : j < s.size) : s.get! j = s[j]'h := by
  have := get_at s j h
  exact this
theorem decode_skip (s : ByteArray) (pos : Nat) (h : pos < s.size) (ha : 128 ≤ (s[pos]'h).toNat) : ∀ j (h' : j < s.size), pos < j → j < pos + (Utf8.decode s pos).2 → 128 ≤ (s[j]'h').toNat := by
  intro j h' h1 h2
  rw [← get_bang s j h']
  have hn : ¬ (s[pos]'h).toNat < 128 := by omega
  simp only [Utf8.decode, get_at s pos h, hn, if_false] at h2
  have hj : j = pos + 1 ∨ j = pos + 2 ∨ j = pos + 3 ∨ pos + 3 < j := by omega
  split at h2
  · rename_i hc
    simp at hc
    split at h2
    · obtain rfl : j = pos + 1 := by omega
      omega
    · omega
  · split at h2
    · rename_i hc
      simp at hc
      split at h2
      · rcases hj with rfl | rfl | rfl | hj <;> omega
      · omega
    · split at h2
      · rename_i hc
        simp at hc
        split at h2
        · rcases hj with rfl | rfl | rfl | hj <;> omega
        · omega
      · omega
theorem clean_step {s : ByteArray} {pos : Nat} (h : pos < s.size) (hc : Clean s pos) (h1 : (Utf8.decode s pos).1 ≠ 37) (h2 : (Utf8.decode s pos).1 ≠ 92) : Clean s (pos + (Utf8.decode s pos).2) := by
  intro j hj hlt
  by_cases h3 : j < pos
  · exact hc j hj h3
  · by_cases ha : (s[pos]'h).toNat < 128
    · rw [decode_ascii s pos h ha] at h1 h2 hlt
      obtain rfl : j = pos := by simp at hlt; omega
      exact ⟨h1, h2⟩
    · by_cases he : j = pos
      · subst he; constructor <;> omega
      · have := decode_skip s pos h (by omega) j hj (by omega) hlt
        constructor <;> omega
theorem clean_all {s : ByteArray} {n : Nat} (hc : Clean s n) (hn : s.size ≤ n) : ∀ c ∈ s.data.toList, c ≠ 37 ∧ c ≠ 92 := by
  intro c hm
  obtain ⟨j, hj, rfl⟩ := List.mem_iff_getElem.mp hm
  have hz : j < s.size := hj
  have := hc j hz (by omega)
  have e : s.data.toList[j] = s[j]'hz := by simp; rfl
  rw [e]
  constructor
  · intro h; rw [h] at this; exact this.1 rfl
  · intro h; rw [h] at this; exact this.2 rfl

theorem puts_of (pre post : ByteArray) (h1 : ∀ c ∈ pre.data.toList, c ≠ 37 ∧ c ≠ 92) (hz : pre.size + post.size ≤ 600) :
    pattern_Of.f ((pre ++ ⟨#[37]⟩) ++ post) = some (true, pre, post) := by
  have hl : ((pre ++ (⟨#[37]⟩ : ByteArray)) ++ post).data.toList = pre.data.toList ++ (37 :: post.data.toList) := by
    simp
  have hx : Lib.indexByte (pre.data.toList ++ (37 :: post.data.toList)) 37 = ((pre.data.toList.length : Nat) : Int) :=
    idx_at (by rw [List.take_left']; exact fun h => (h1 37 h).1 rfl; rfl) (by simp)
  have hs : stopAt (pre.data.toList ++ (37 :: post.data.toList)) pre.data.toList.length = pre.data.toList.length := by
    cases hn : pre.data.toList.length with
    | zero => rfl
    | succ k =>
      have hk : k < pre.data.toList.length := by omega
      refine stop_other (c := pre.data.toList[k]) ?_ (h1 _ (List.getElem_mem hk)).2
      rw [List.getElem?_append_left hk, List.getElem?_eq_getElem hk]
  unfold pattern_Of.f ofS
  rw [if_pos (by simp only [ByteArray.size_append, show (⟨#[37]⟩ : ByteArray).size = 1 from rfl]; omega), hl, ofL_even hx hs (by omega)]
  have e1 : ([] : List UInt8) ++ (pre.data.toList ++ (37 :: post.data.toList)).take (pre.data.toList.length + (pre.data.toList.length - pre.data.toList.length) / 2) = pre.data.toList := by
    rw [List.nil_append, Nat.sub_self, show pre.data.toList.length + 0 / 2 = pre.data.toList.length by omega, List.take_left']; rfl
  have e2 : (pre.data.toList ++ (37 :: post.data.toList)).drop (pre.data.toList.length + 1) = post.data.toList := by
    rw [List.drop_append, List.drop_eq_nil_of_le (by omega)]; simp
  simp only [e1, e2, Lib.mk_data]

theorem ba_ext {a b : ByteArray} (h : a.data.toList = b.data.toList) : a = b := ByteArray.ext (Array.toList_inj.mp h)
theorem cat_list (a b : ByteArray) : (a ++ b).data.toList = a.data.toList ++ b.data.toList := by simp
theorem puts_match (pre stem post : ByteArray) (hz : pre.size + stem.size + post.size ≤ 600) :
    pattern_Pattern_Match.f true pre post ((pre ++ stem) ++ post) = some (stem, true) := by
  have hzz : ((pre ++ stem) ++ post).size = pre.size + stem.size + post.size := by simp
  have l1 : pre.data.toList.length = pre.size := rfl
  have l2 : stem.data.toList.length = stem.size := rfl
  have l3 : post.data.toList.length = post.size := rfl
  have a1 : (((pre ++ stem) ++ post).extract 0 pre.size).toList = pre.toList := by
    rw [Lib.toList_data, Lib.toList_data, Lib.extract_data, cat_list, cat_list, List.drop_zero, Nat.sub_zero, List.append_assoc, ← l1, List.take_left']; rfl
  have a2 : (((pre ++ stem) ++ post).extract (((pre ++ stem) ++ post).size - post.size) ((pre ++ stem) ++ post).size).toList = post.toList := by
    rw [Lib.toList_data, Lib.toList_data, Lib.extract_to_end, cat_list, cat_list, hzz, show pre.size + stem.size + post.size - post.size = (pre.data.toList ++ stem.data.toList).length by simp <;> omega, List.drop_left']; rfl
  have a3 : ((pre ++ stem) ++ post).extract pre.size (((pre ++ stem) ++ post).size - post.size) = stem := by
    apply ba_ext
    rw [Lib.extract_data, cat_list, cat_list, hzz, List.append_assoc, ← l1, List.drop_left' rfl, show pre.data.toList.length + stem.size + post.size - post.size - pre.data.toList.length = stem.data.toList.length by omega, List.take_left' rfl]
  rw [match_is true pre post _ (by omega) (by omega), if_pos rfl, if_neg (by omega), if_pos ⟨a1, a2⟩, a3]

theorem puts_back (pre post w : ByteArray) (hz : pre.size + w.size + post.size ≤ 600) :
    ∃ t b, pattern_Pattern_Match.f true pre post w = some (t, b) ∧ t.size ≤ w.size ∧ (b = true → (pre ++ t) ++ post = w) := by
  rw [match_is true pre post w (by omega) (by omega), if_pos rfl]
  by_cases h : w.size < pre.size + post.size
  · rw [if_pos h]
    exact ⟨_, _, rfl, Nat.zero_le _, fun h => by cases h⟩
  · rw [if_neg h]
    by_cases h2 : (w.extract 0 pre.size).toList = pre.toList ∧ (w.extract (w.size - post.size) w.size).toList = post.toList
    · rw [if_pos h2]
      obtain ⟨h3, h4⟩ := h2
      refine ⟨_, _, rfl, by simp; omega, fun _ => ?_⟩
      apply ba_ext
      have lw : w.data.toList.length = w.size := rfl
      rw [Lib.toList_data, Lib.toList_data, Lib.extract_data, List.drop_zero, Nat.sub_zero] at h3
      rw [Lib.toList_data, Lib.toList_data, Lib.extract_to_end] at h4
      rw [cat_list, cat_list, ← h3, ← h4, Lib.extract_data]
      have e : (w.data.toList.drop pre.size).drop (w.size - post.size - pre.size) = w.data.toList.drop (w.size - post.size) := by
        rw [List.drop_drop]; congr 1; omega
      rw [← e, List.append_assoc, List.take_append_drop, List.take_append_drop]
    · rw [if_neg h2]
      exact ⟨_, _, rfl, Nat.zero_le _, fun h => by cases h⟩

theorem puts_of3 : pattern_Of.f (⟨#[60, 37, 62]⟩ : ByteArray) = some (true, ⟨#[60]⟩, ⟨#[62]⟩) := by
  have e : (⟨#[60, 37, 62]⟩ : ByteArray) = (⟨#[60]⟩ ++ ⟨#[37]⟩) ++ ⟨#[62]⟩ := ba_ext (by simp)
  rw [e]
  exact puts_of ⟨#[60]⟩ ⟨#[62]⟩ (by intro c hc; simp at hc; subst hc; decide) (by decide)
theorem puts_put (stem : ByteArray) (h : stem.size ≤ 600) : pattern_Pattern_Put.f true ⟨#[60]⟩ ⟨#[62]⟩ stem = some ((⟨#[60]⟩ ++ stem) ++ ⟨#[62]⟩) := by
  have z1 : (⟨#[60]⟩ : ByteArray).size = 1 := rfl
  have z2 : (⟨#[62]⟩ : ByteArray).size = 1 := rfl
  have := put_some true ⟨#[60]⟩ ⟨#[62]⟩ stem (by omega)
  rw [if_pos rfl] at this
  exact this
theorem puts_rep (pre stem post : ByteArray) (h1 : ∀ c ∈ pre.data.toList, c ≠ 37 ∧ c ≠ 92) (hz : pre.size + stem.size + post.size ≤ 600) :
    pattern_Replace.f ((pre ++ ⟨#[37]⟩) ++ post) ⟨#[60, 37, 62]⟩ ((pre ++ stem) ++ post) = some ((⟨#[60]⟩ ++ stem) ++ ⟨#[62]⟩, true) := by
  have h3 := puts_of pre post h1 (by omega)
  have h4 := puts_match pre stem post hz
  have h5 := puts_put stem (by omega)
  unfold pattern_Replace.f
  rw [h3, puts_of3, Option.bind_some, Option.bind_some, h4, Option.bind_some, h5]
  rfl
end Go.Proofs.Ytabdjijlmiobhaa.Pure
