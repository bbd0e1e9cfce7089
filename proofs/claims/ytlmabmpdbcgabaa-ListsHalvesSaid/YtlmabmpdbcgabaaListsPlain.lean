/- lists: the plain law: sorted, each once; cut; filtered; side by side; with more ahead and behind. -/
import Derived.Test.YtlmabmpdbcgabaaListsRef
namespace Go.Proofs.Ytlmabmpdbcgabaa.G
open Go.RowKit Go.Sort Go.Proofs.Ytlmabmpdbcgabaa.P Go.Proofs.YtlmabmpdbcgabaaW.PrintWords

theorem rises_eq : ∀ {a b : List ByteArray}, Rises a → Rises b → (∀ x, x ∈ a ↔ x ∈ b) → a = b
  | [], [], _, _, _ => rfl
  | [], y :: b, _, _, h => absurd ((h y).mpr (by simp)) (by simp)
  | x :: a, [], _, _, h => absurd ((h x).mp (by simp)) (by simp)
  | x :: a, y :: b, ha, hb, h => by
    have ha' := List.pairwise_cons.mp ha
    have hb' := List.pairwise_cons.mp hb
    have hxy : x = y := by
      have h1 := (h x).mp (by simp)
      have h2 := (h y).mpr (by simp)
      rcases List.mem_cons.mp h1 with h1 | h1
      · exact h1
      · rcases List.mem_cons.mp h2 with h2 | h2
        · exact h2.symm
        · exact absurd (ltB_trans (ha'.1 y h2) (hb'.1 x h1)) (ltB_irrefl x)
    subst hxy
    have : a = b := rises_eq ha'.2 hb'.2 (fun z => by
      constructor
      · intro hz
        rcases List.mem_cons.mp ((h z).mp (List.mem_cons_of_mem _ hz)) with hh | hh
        · subst hh; exact absurd (ha'.1 z hz) (ltB_irrefl z)
        · exact hh
      · intro hz
        rcases List.mem_cons.mp ((h z).mpr (List.mem_cons_of_mem _ hz)) with hh | hh
        · subst hh; exact absurd (hb'.1 z hz) (ltB_irrefl z)
        · exact hh)
    rw [this]

theorem le_ne {a b : List UInt8} (h : a ≤ b) (hn : a ≠ b) : a < b := by
  by_cases h1 : a < b
  · exact h1
  · exact absurd (List.le_antisymm h (List.not_lt.mp h1)) hn

/-- Runs of equals become one: of a row that does not fall, a row that rises. -/
theorem compact_inv (d : Array (List UInt8)) (hs : ∀ i j, i < j → j < d.size → d[i]! ≤ d[j]!) : ∀ m, m ≤ d.size →
    (Lib.compactUpTo d m).Pairwise (· < ·) ∧ (∀ x, x ∈ Lib.compactUpTo d m ↔ ∃ j, j < m ∧ d[j]! = x) ∧ ∀ x ∈ Lib.compactUpTo d m, x ≤ d[m - 1]! := by
  intro m
  induction m with
  | zero => intro _; exact ⟨List.Pairwise.nil, fun x => by simp [Lib.compactUpTo], fun x hx => by simp [Lib.compactUpTo] at hx⟩
  | succ m ih =>
    intro hm
    obtain ⟨h1, h2, h3⟩ := ih (by omega)
    have hmem : ∀ x, (∃ j, j < m + 1 ∧ d[j]! = x) ↔ (x ∈ Lib.compactUpTo d m ∨ x = d[m]!) := fun x => by
      rw [h2]
      constructor
      · rintro ⟨j, hj, rfl⟩
        by_cases hjm : j = m
        · exact Or.inr (by rw [hjm])
        · exact Or.inl ⟨j, by omega, rfl⟩
      · rintro (⟨j, hj, rfl⟩ | rfl)
        · exact ⟨j, by omega, rfl⟩
        · exact ⟨m, by omega, rfl⟩
    have hle : ∀ x ∈ Lib.compactUpTo d m, x ≤ d[m]! := fun x hx => by
      obtain ⟨j, hj, rfl⟩ := (h2 x).mp hx
      exact hs j m hj (by omega)
    rw [Lib.compactUpTo_succ]
    cases hk : Lib.keeps d m with
    | true =>
      have hne : m = 0 ∨ d[m]! ≠ d[m - 1]! := of_decide_eq_true hk
      have hlt : ∀ x ∈ Lib.compactUpTo d m, x < d[m]! := fun x hx => by
        rcases hne with rfl | hne
        · simp [Lib.compactUpTo] at hx
        · refine le_ne (hle x hx) (fun e => ?_)
          by_cases hm0 : m = 0
          · subst hm0; simp [Lib.compactUpTo] at hx
          · have ha := h3 x hx
            have hb := hs (m - 1) m (by omega) (by omega)
            rw [e] at ha
            exact hne (List.le_antisymm ha hb)
      simp only [if_true]
      refine ⟨List.pairwise_append.mpr ⟨h1, by simp, fun a ha b hb => ?_⟩, fun x => ?_, fun x hx => ?_⟩
      · obtain rfl : b = d[m]! := by simpa using hb
        exact hlt a ha
      · rw [hmem, List.mem_append, List.mem_singleton]
      · rw [Nat.add_sub_cancel]
        rcases List.mem_append.mp hx with hx | hx
        · exact hle x hx
        · obtain rfl : x = d[m]! := by simpa using hx
          exact List.le_refl _
    | false =>
      have hnk : ¬ (m = 0 ∨ d[m]! ≠ d[m - 1]!) := of_decide_eq_false hk
      have hm0 : m ≠ 0 := fun h => hnk (Or.inl h)
      have heq : d[m]! = d[m - 1]! := Decidable.byContradiction (fun h => hnk (Or.inr h))
      simp only [Bool.false_eq_true, if_false, List.append_nil]
      refine ⟨h1, fun x => ?_, fun x hx => by rw [Nat.add_sub_cancel]; exact hle x hx⟩
      rw [hmem]
      constructor
      · exact Or.inl
      · rintro (h | rfl)
        · exact h
        · exact (h2 _).mpr ⟨m - 1, by omega, heq.symm⟩

theorem srt_sorted (l : List ByteArray) : (srt l).Pairwise (· ≤ ·) := by
  have := List.pairwise_mergeSort (le := fun x y : List UInt8 => decide (x ≤ y)) (fun a b c h k => decide_eq_true (List.le_trans (of_decide_eq_true h) (of_decide_eq_true k))) (fun a b => by
    rcases List.le_total a b with h | h
    · simp [h]
    · simp [h]) (bytes l)
  exact this.imp (fun h => of_decide_eq_true h)
theorem sortB_sorts (l : List ByteArray) : Sorts (sortB l) l := by
  have hsrt := srt_sorted l
  have hget : ∀ i (h : i < (srt l).length), (srt l).toArray[i]! = (srt l)[i] := fun i h => by
    rw [getElem!_pos (srt l).toArray i (by simpa using h)]; simp
  obtain ⟨h1, h2, _⟩ := compact_inv (srt l).toArray (fun i j hij hj => by
    have hj' : j < (srt l).length := by simpa using hj
    rw [hget i (by omega), hget j hj']
    exact List.pairwise_iff_getElem.mp hsrt i j (by omega) hj' hij) (srt l).length (by simp)
  have hc : Lib.compact (srt l) = Lib.compactUpTo (srt l).toArray (srt l).length := rfl
  unfold Sorts Rises sortB texts
  refine ⟨?_, fun x => ?_⟩
  · rw [List.pairwise_map, hc]
    refine h1.imp (fun {a b} h => ?_)
    show (⟨a.toArray⟩ : ByteArray).toList < (⟨b.toArray⟩ : ByteArray).toList
    rw [Lib.toList_data, Lib.toList_data]
    simpa using h
  · rw [hc]
    constructor
    · intro hx
      obtain ⟨y, hy, rfl⟩ := List.mem_map.mp hx
      obtain ⟨j, hj, rfl⟩ := (h2 y).mp hy
      rw [hget j hj]
      have hm : (srt l)[j] ∈ srt l := List.getElem_mem hj
      have hm2 : (srt l)[j] ∈ bytes l := List.mem_mergeSort.mp hm
      obtain ⟨z, hz, he⟩ := List.mem_map.mp hm2
      rw [← he]
      exact hz
    · intro hx
      have hm : x.data.toList ∈ srt l := List.mem_mergeSort.mpr (List.mem_map.mpr ⟨x, hx, rfl⟩)
      obtain ⟨j, hj, he⟩ := List.getElem_of_mem hm
      refine List.mem_map.mpr ⟨x.data.toList, (h2 _).mpr ⟨j, hj, by rw [hget j hj, he]⟩, rfl⟩
theorem sort_same {l m : List ByteArray} (h : Sorts m l) : sortB l = m :=
  rises_eq (sortB_sorts l).1 h.1 (fun x => ((sortB_sorts l).2 x).trans (h.2 x).symm)
end Go.Proofs.Ytlmabmpdbcgabaa.G
