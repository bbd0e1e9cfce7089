/- The plain law of PathParts. -/
import Derived.Test.YtpoekljclapbfaaDoorPathPlain
namespace Go.Proofs.YtpoekljclapbfaaDoor.G
open Go.RowKit
set_option linter.unusedVariables false

def NoSl (l : List UInt8) : Prop := ∀ c ∈ l, ¬ c = 47
theorem cut_push : ∀ (p l : List UInt8) (D : List (List UInt8)) (cur : List UInt8), NoSl p → cutL l = D ++ [cur] → cutL (l ++ p) = D ++ [cur ++ p]
  | [], l, D, cur, _, h => by simpa using h
  | c :: p, l, D, cur, hp, h => by
    obtain ⟨D', cur', h1, _, h3⟩ := cut_snoc l
    rw [h] at h1
    obtain ⟨rfl, e⟩ := List.append_inj' h1 rfl
    obtain rfl : cur = cur' := by simpa using e
    have := cut_push p (l ++ [c]) D (cur ++ [c]) (fun x hx => hp x (List.mem_cons_of_mem _ hx)) (h3 c (hp c (List.mem_cons_self ..)))
    simpa using this
theorem cut_slash (l p : List UInt8) (hp : NoSl p) : cutL (l ++ [47] ++ p) = cutL l ++ [p] := by
  obtain ⟨D, cur, h1, h2, _⟩ := cut_snoc l
  have := cut_push p (l ++ [47]) (D ++ [cur]) [] hp h2
  rw [this, h1]
  simp
theorem cut_none (p : List UInt8) (hp : NoSl p) : cutL p = [p] := by
  have := cut_push p [] [] [] hp rfl
  simpa using this
theorem parts_data (s : ByteArray) : (partsB s).map (·.data.toList) = cutL s.data.toList := by
  rw [← split_cut]
  unfold partsB
  rw [Lib.splitB_data]
  rfl
theorem parts_inj {l l' : List ByteArray} (h : l.map (·.data.toList) = l'.map (·.data.toList)) : l = l' :=
  (List.map_inj_right (f := fun x : ByteArray => x.data.toList) (fun a b h => bytes_inj' h)).1 h
theorem parts_slash (s p : ByteArray) (hp : NoSl p.data.toList) : partsB (s ++ ⟨#[47]⟩ ++ p) = partsB s ++ [p] := by
  refine parts_inj ?_
  rw [parts_data, List.map_append, parts_data]
  have : (s ++ ⟨#[47]⟩ ++ p).data.toList = s.data.toList ++ [47] ++ p.data.toList := by simp [ByteArray.data_append]
  rw [this, cut_slash _ _ hp]
  rfl
theorem parts_none (p : ByteArray) (hp : NoSl p.data.toList) : partsB (⟨#[]⟩ ++ p) = [p] := by
  refine parts_inj ?_
  have : (⟨#[]⟩ ++ p : ByteArray).data.toList = p.data.toList := by simp [ByteArray.data_append]
  rw [parts_data, this, cut_none _ hp]
  rfl
theorem pile_slash (s p : ByteArray) (hp : NoSl p.data.toList) : pileB (partsB (s ++ ⟨#[47]⟩ ++ p)) = stepB (pileB (partsB s)) p := by
  rw [parts_slash s p hp]
  simp [pileB]
theorem pile_none (p : ByteArray) (hp : NoSl p.data.toList) : pileB (partsB (⟨#[]⟩ ++ p)) = stepB [] p := by
  rw [parts_none p hp]
  rfl
theorem empty_app (s : ByteArray) : s ++ ⟨#[]⟩ = s := bytes_inj' (by simp [ByteArray.data_append])
theorem app_empty (s : ByteArray) : (⟨#[]⟩ : ByteArray) ++ s = s := bytes_inj' (by simp [ByteArray.data_append])
theorem pile_last (s : ByteArray) : pileB (partsB (s ++ ⟨#[47]⟩)) = pileB (partsB s) := by
  have := pile_slash s ⟨#[]⟩ (fun c hc => by cases hc)
  rw [empty_app] at this
  rw [this, step_skip (Or.inl rfl)]
/-- what a pile may hold -/
def Plain (x : ByteArray) : Prop := ¬ x = ⟨#[]⟩ ∧ ¬ x = dotB ∧ ¬ x = upB ∧ NoSl x.data.toList
theorem step_plain {pl : List ByteArray} {x : ByteArray} (hp : NoSl x.data.toList) (h : ∀ y ∈ pl, Plain y) : ∀ y ∈ stepB pl x, Plain y := by
  intro y hy
  unfold stepB at hy
  split at hy
  · exact h y hy
  · rename_i h1
    split at hy
    · exact h y (List.mem_of_mem_take hy)
    · rename_i h2
      rcases List.mem_append.1 hy with hy | hy
      · exact h y hy
      · have := List.mem_singleton.1 hy
        subst this
        exact ⟨fun e => h1 (Or.inl e), fun e => h1 (Or.inr e), h2, hp⟩
theorem pile_again : ∀ (l pl : List ByteArray), (∀ y ∈ l, Plain y) → l.foldl stepB pl = pl ++ l
  | [], pl, _ => by simp
  | x :: l, pl, h => by
    have hx := h x (List.mem_cons_self ..)
    rw [List.foldl_cons, step_push hx.1 hx.2.1 hx.2.2.1, pile_again l _ (fun y hy => h y (List.mem_cons_of_mem _ hy))]
    simp
theorem flat_parts : ∀ (l : List ByteArray) (t : ByteArray), (∀ y ∈ l, NoSl y.data.toList) → partsB (l.foldl (fun t x => t ++ slashB ++ x) t) = partsB t ++ l
  | [], t, _ => by simp
  | x :: l, t, h => by
    rw [List.foldl_cons, flat_parts l _ (fun y hy => h y (List.mem_cons_of_mem _ hy))]
    rw [show t ++ slashB ++ x = t ++ ⟨#[47]⟩ ++ x from rfl, parts_slash t x (h x (List.mem_cons_self ..))]
    simp
theorem parts_nil : partsB ⟨#[]⟩ = [⟨#[]⟩] := by decide +kernel
theorem pile_flat (pl : List ByteArray) (h : ∀ y ∈ pl, Plain y) : pileB (partsB (flatB pl)) = pl := by
  unfold flatB
  rw [flat_parts pl _ (fun y hy => (h y hy).2.2.2), parts_nil]
  unfold pileB
  rw [List.singleton_append, List.foldl_cons, step_skip (Or.inl rfl), pile_again pl [] h]
  rfl
theorem pile_R (s : ByteArray) : pileB (partsR s) = pileB (partsB s) := by rw [parts_same]; exact pile_filter _ _
theorem abs_of (s : ByteArray) : absB s = if s = ⟨#[]⟩ then ⟨#[]⟩ else if flatB (pileB (partsB s)) = ⟨#[]⟩ then ⟨#[47]⟩ else flatB (pileB (partsB s)) := by
  rw [abs_same, absR, pile_R]
  rfl
theorem abs_slash : absB ⟨#[47]⟩ = ⟨#[47]⟩ := by decide +kernel
theorem abs_nil : absB ⟨#[]⟩ = ⟨#[]⟩ := by rw [absB, if_pos rfl]
theorem flat_nil_of (pl : List ByteArray) (h : flatB pl = ⟨#[]⟩) : pl = [] := by
  cases pl with
  | nil => rfl
  | cons y r =>
    have h1 : (flatB (y :: r)).data.toList = [] := by rw [h]
    unfold flatB at h1
    rw [flat_join] at h1
    simp [Lib.joinTail] at h1
theorem abs_again (pl : List ByteArray) (h : ∀ y ∈ pl, Plain y) (hn : ¬ flatB pl = ⟨#[]⟩) : absB (flatB pl) = flatB pl := by
  rw [abs_of, if_neg hn, pile_flat pl h, if_neg hn]
theorem dir_notdir (s : ByteArray) : (dirB s = ⟨#[46, 47]⟩ ∧ notdirB s = s) ∨ (¬ notdirB s = s ∧ dirB s ++ notdirB s = s) := by
  have hle := slash_le s
  rcases Nat.eq_zero_or_pos (slashN s) with h | h
  · refine Or.inl ⟨by rw [dirB, if_neg (by omega)], ?_⟩
    rw [notdirB, h]
    have hl : s.data.toList.length = s.size := by rw [Array.length_toList]; rfl
    exact bytes_inj' (by rw [ext_data, List.take_of_length_le (by omega), List.drop_zero])
  · refine Or.inr ⟨fun e => ?_, ?_⟩
    · have h1 : (notdirB s).size = s.size - slashN s := by simp [notdirB, ByteArray.size_extract]
      rw [e] at h1
      omega
    · rw [dirB, if_pos h, notdirB]
      refine bytes_inj' ?_
      have hl : s.data.toList.length = s.size := by rw [Array.length_toList]; rfl
      rw [ByteArray.data_append, Array.toList_append, ext_data, ext_data, List.drop_zero, List.take_of_length_le (show s.data.toList.length ≤ s.size by omega), List.take_append_drop]
theorem tail_drop (t : ByteArray) : ∃ j, j ≤ t.size ∧ (tailB t).data.toList = t.data.toList.drop j := by
  have hl : t.data.toList.length = t.size := by rw [Array.length_toList]; rfl
  have h1 := last_le t 46 t.size
  unfold tailB
  split
  · refine ⟨(Lib.lastIndexByte t 46).toNat, by unfold Lib.lastIndexByte; omega, ?_⟩
    rw [ext_data, List.take_of_length_le (by omega)]
  · exact ⟨t.size, Nat.le_refl _, by rw [List.drop_eq_nil_of_le (by omega)]⟩
theorem base_suf (s : ByteArray) : baseB s ++ sufB s = s := by
  have hl : s.data.toList.length = s.size := by rw [Array.length_toList]; rfl
  have hle := slash_le s
  obtain ⟨j, hj, e⟩ := tail_drop (notdirB s)
  have hn : (notdirB s).data.toList = s.data.toList.drop (slashN s) := by rw [notdirB, ext_data, List.take_of_length_le (by omega)]
  have hns : (notdirB s).size = s.size - slashN s := by simp [notdirB, ByteArray.size_extract]
  have hs : (sufB s).data.toList = s.data.toList.drop (slashN s + j) := by rw [sufB, e, hn, List.drop_drop]
  have hz : (sufB s).size = s.size - (slashN s + j) := by
    have h5 : (sufB s).data.toList.length = (sufB s).size := by rw [Array.length_toList]; rfl
    rw [← h5, hs, List.length_drop, hl]
  refine bytes_inj' ?_
  rw [baseB, ByteArray.data_append, Array.toList_append, ext_data, hz, hs, List.drop_zero, show s.size - (s.size - (slashN s + j)) = slashN s + j by omega, List.take_append_drop]
end Go.Proofs.YtpoekljclapbfaaDoor.G
