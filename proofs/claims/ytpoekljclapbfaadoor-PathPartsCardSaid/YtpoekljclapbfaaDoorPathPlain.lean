/- The plain law of PathAll: the two answers are one. -/
import Derived.Test.YtpoekljclapbfaaDoorPathRabs
namespace Go.Proofs.YtpoekljclapbfaaDoor.G
open Go.RowKit
set_option linter.unusedVariables false

def headOn (c : UInt8) : List (List UInt8) → List (List UInt8)
  | h :: t => (c :: h) :: t
  | [] => [[c]]
def cutL : List UInt8 → List (List UInt8)
  | [] => [[]]
  | c :: l => if c = 47 then [] :: cutL l else headOn c (cutL l)
theorem split_cut : ∀ (l : List UInt8), Lib.splitK [47] 0 (Lib.count l [47]) l = cutL l
  | [] => by rw [Lib.count_miss (by simp [Lib.index])]; rfl
  | c :: l => by
    have ih := split_cut l
    by_cases h : c = 47
    · subst h
      have hix : Lib.index (47 :: l) [47] = 0 := by rw [Lib.index]; simp [List.isPrefixOf]
      rw [Lib.count_cons_eq, Nat.add_comm, Lib.splitK, hix, if_neg (by decide), cutL, if_pos rfl]
      simp [ih]
    · rw [Lib.count_cons_ne c 47 l h, cutL, if_neg h]
      have hp : ([47] : List UInt8).isPrefixOf (c :: l) = false := by simp [List.isPrefixOf, Ne.symm h]
      have hix : Lib.index (c :: l) [47] = if Lib.index l [47] == -1 then -1 else Lib.index l [47] + 1 := by rw [Lib.index, hp]; simp
      by_cases hm : Lib.index l [47] = -1
      · rw [Lib.count_miss hm] at ih ⊢
        rw [← ih]
        rfl
      · have hge := Lib.index_ge l [47]
        obtain ⟨j, hj⟩ : ∃ j : Nat, Lib.index l [47] = j := ⟨(Lib.index l [47]).toNat, by omega⟩
        have hc := Lib.count_hit (sub := [47]) (by simp) hj
        rw [hc, Nat.add_comm] at ih ⊢
        rw [Lib.splitK, if_neg (fun e => hm (beq_iff_eq.1 e)), hj] at ih
        rw [Lib.splitK, hix, if_neg (fun e => hm (beq_iff_eq.1 e)), hj, if_neg (fun e => by have := beq_iff_eq.1 e; omega), ← ih, show ((j : Int) + 1).toNat = j + 1 by omega, show ((j : Int)).toNat = j by omega]
        simp [headOn]
theorem cut_snoc : ∀ (l : List UInt8), ∃ D cur, cutL l = D ++ [cur] ∧ cutL (l ++ [47]) = (D ++ [cur]) ++ [[]] ∧ ∀ c, ¬ c = 47 → cutL (l ++ [c]) = D ++ [cur ++ [c]]
  | [] => ⟨[], [], rfl, rfl, fun c h => by simp [cutL, headOn, h]⟩
  | a :: l => by
    obtain ⟨D, cur, h1, h2, h3⟩ := cut_snoc l
    by_cases h : a = 47
    · subst h
      refine ⟨[] :: D, cur, ?_, ?_, fun c hc => ?_⟩
      · rw [cutL, if_pos rfl, h1]; rfl
      · rw [List.cons_append, cutL, if_pos rfl, h2]; rfl
      · rw [List.cons_append, cutL, if_pos rfl, h3 c hc]; rfl
    · cases D with
      | nil =>
        refine ⟨[], a :: cur, ?_, ?_, fun c hc => ?_⟩
        · rw [cutL, if_neg h, h1]; rfl
        · rw [List.cons_append, cutL, if_neg h, h2]; rfl
        · rw [List.cons_append, cutL, if_neg h, h3 c hc]; rfl
      | cons d D =>
        refine ⟨(a :: d) :: D, cur, ?_, ?_, fun c hc => ?_⟩
        · rw [cutL, if_neg h, h1]; rfl
        · rw [List.cons_append, cutL, if_neg h, h2]; rfl
        · rw [List.cons_append, cutL, if_neg h, h3 c hc]; rfl
theorem ext_data (s : ByteArray) (a b : Nat) : (s.extract a b).data.toList = (s.data.toList.take b).drop a := by
  rw [Lib.extract_data]
  simp [List.drop_take]
theorem scan_cut (s : ByteArray) : ∀ k, k ≤ s.size → ∃ D cur, cutL (s.data.toList.take k) = D ++ [cur] ∧ D.filter (fun x => !x.isEmpty) = (scanP s k).1.map (·.data.toList) ∧ cur = (s.data.toList.take k).drop (scanP s k).2
  | 0, _ => ⟨[], [], rfl, rfl, rfl⟩
  | k + 1, hk => by
    obtain ⟨D, cur, h1, h2, h3⟩ := scan_cut s k (by omega)
    obtain ⟨D', cur', g1, g2, g3⟩ := cut_snoc (s.data.toList.take k)
    rw [h1] at g1
    obtain ⟨rfl, e⟩ := List.append_inj' g1 rfl
    obtain rfl : cur = cur' := by simpa using e
    clear e g1
    have hlt : k < s.data.toList.length := by rw [Array.length_toList]; exact hk
    have ht : s.data.toList.take (k + 1) = s.data.toList.take k ++ [s[k]'hk] := by
      rw [List.take_succ_eq_append_getElem hlt]; rfl
    have hf := scan_from s k
    have hlk : (s.data.toList.take k).length = k := by rw [List.length_take]; omega
    have hE : endsAt s k = (((s[k]'hk).toNat : Int) == 47) := by unfold endsAt; rw [dif_pos (show k < s.size from hk)]
    by_cases hc : s[k]'hk = 47
    · have hE2 : endsAt s k = true := by rw [hE, hc]; rfl
      rw [scan_end s k hE2, ht, hc, g2]
      refine ⟨D ++ [cur], [], rfl, ?_, ?_⟩
      · rw [List.filter_append, h2]
        show _ = (if (scanP s k).2 < k then (scanP s k).1 ++ [s.extract (scanP s k).2 k] else (scanP s k).1).map (·.data.toList)
        by_cases hfk : (scanP s k).2 < k
        · rw [if_pos hfk, List.map_append, List.map_cons, ext_data, ← h3]
          have : cur.isEmpty = false := by
            rw [List.isEmpty_eq_false_iff, ← List.length_pos_iff, h3, List.length_drop, hlk]
            omega
          simp [this]
        · rw [if_neg hfk]
          have : cur = [] := by rw [← List.length_eq_zero_iff, h3, List.length_drop, hlk]; omega
          simp [this]
      · show [] = List.drop (k + 1) _
        rw [List.drop_eq_nil_of_le (by simp; omega)]
    · have hE2 : endsAt s k = false := by
        rw [hE]
        refine beq_eq_false_iff_ne.2 fun e => hc ?_
        have : (s[k]'hk).toNat = 47 := by omega
        exact UInt8.toNat_inj.1 (by rw [this]; rfl)
      rw [scan_go s k hE2, ht, g3 _ hc]
      refine ⟨D, _, rfl, h2, ?_⟩
      rw [h3, List.drop_append_of_le_length (by rw [hlk]; exact hf)]
theorem parts_cut (s : ByteArray) : (partsR s).map (·.data.toList) = (cutL s.data.toList).filter (fun x => !x.isEmpty) := by
  obtain ⟨D, cur, h1, h2, h3⟩ := scan_cut s s.size (Nat.le_refl _)
  have hl : s.data.toList.length = s.size := by rw [Array.length_toList]; rfl
  rw [List.take_of_length_le (by omega)] at h1 h3
  have hE : endsAt s s.size = true := by unfold endsAt; rw [dif_neg (Nat.lt_irrefl _)]
  have hf := scan_from s s.size
  unfold partsR
  rw [scan_end s s.size hE, h1, List.filter_append, h2]
  show (if (scanP s s.size).2 < s.size then (scanP s s.size).1 ++ [s.extract (scanP s s.size).2 s.size] else (scanP s s.size).1).map (·.data.toList) = _
  by_cases hfk : (scanP s s.size).2 < s.size
  · rw [if_pos hfk, List.map_append, List.map_cons, ext_data, List.take_of_length_le (by omega), ← h3]
    have : cur.isEmpty = false := by
      rw [List.isEmpty_eq_false_iff, ← List.length_pos_iff, h3, List.length_drop, hl]
      omega
    simp [this]
  · rw [if_neg hfk]
    have : cur = [] := by rw [← List.length_eq_zero_iff, h3, List.length_drop, hl]; omega
    simp [this]
theorem bytes_inj' {a b : ByteArray} (h : a.data.toList = b.data.toList) : a = b := by
  rcases a with ⟨a⟩
  rcases b with ⟨b⟩
  congr 1
  exact Array.toList_inj.1 h
theorem parts_same (s : ByteArray) : partsR s = (partsB s).filter (fun x => !x.data.toList.isEmpty) := by
  refine (List.map_inj_right (f := fun x : ByteArray => x.data.toList) (fun a b h => bytes_inj' h)).1 ?_
  rw [parts_cut, ← split_cut]
  unfold partsB
  rw [show (fun x : ByteArray => !x.data.toList.isEmpty) = (fun x : List UInt8 => !x.isEmpty) ∘ (fun x : ByteArray => x.data.toList) from rfl, ← List.filter_map, Lib.splitB_data]
  rfl
theorem pile_filter : ∀ (l pl : List ByteArray), (l.filter (fun x => !x.data.toList.isEmpty)).foldl stepB pl = l.foldl stepB pl
  | [], _ => rfl
  | x :: l, pl => by
    rw [List.filter_cons]
    split
    · exact pile_filter l _
    · rename_i h
      have : x = ⟨#[]⟩ := bytes_inj' (by simpa using h)
      rw [pile_filter l pl, List.foldl_cons, step_skip (Or.inl this)]
theorem flat_join : ∀ (l : List ByteArray) (t : ByteArray), (l.foldl (fun t x => t ++ slashB ++ x) t).data.toList = t.data.toList ++ Lib.joinTail [47] (l.map (·.data.toList))
  | [], t => by simp [Lib.joinTail]
  | x :: l, t => by
    rw [List.foldl_cons, flat_join l]
    simp [Lib.joinTail, slashB, ByteArray.data_append]
theorem abs_same (s : ByteArray) : absB s = absR s := by
  unfold absB absR
  split
  · rfl
  · have e : pileB (partsR s) = pileB (partsB s) := by rw [parts_same]; exact pile_filter _ _
    rw [e]
    cases h : pileB (partsB s) with
    | nil => rfl
    | cons y r =>
      have hf : flatB (y :: r) = slashB ++ joinB (y :: r) := by
        refine bytes_inj' ?_
        unfold flatB
        rw [flat_join, ByteArray.data_append]
        simp [joinB, Lib.join_cons, Lib.joinTail, slashB]
      rw [hf, if_neg]
      intro h0
      have := congrArg ByteArray.size h0
      rw [ByteArray.size_append] at this
      have h1 : slashB.size = 1 := rfl
      have h2 : (⟨#[]⟩ : ByteArray).size = 0 := rfl
      omega
end Go.Proofs.YtpoekljclapbfaaDoor.G
