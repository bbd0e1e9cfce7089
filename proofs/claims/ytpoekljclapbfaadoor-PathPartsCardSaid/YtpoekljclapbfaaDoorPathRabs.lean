/- The reference's Abs: the walk of its code. -/
import Derived.Test.YtpoekljclapbfaaDoorPathPar
namespace Go.Proofs.YtpoekljclapbfaaDoor.G
open Go.RowKit
set_option linter.unusedVariables false

theorem scan_good (s : ByteArray) : ∀ k, k ≤ s.size + 1 → ∀ x ∈ (scanP s k).1, ¬ x = ⟨#[]⟩ ∧ x.size ≤ s.size
  | 0, _, x, hx => by cases hx
  | k + 1, hk, x, hx => by
    have ih := scan_good s k (by omega)
    cases h : endsAt s k with
    | false => rw [scan_go s k h] at hx; exact ih x hx
    | true =>
      rw [scan_end s k h] at hx
      split at hx
      · rename_i hf
        rcases List.mem_append.1 hx with hx | hx
        · exact ih x hx
        · have hx := List.mem_singleton.1 hx
          have hsz : (s.extract (scanP s k).2 k).size = min k s.size - (scanP s k).2 := by rw [ByteArray.size_extract]
          subst hx
          refine ⟨fun e => ?_, by omega⟩
          rw [e] at hsz
          have : (⟨#[]⟩ : ByteArray).size = 0 := rfl
          omega
      · exact ih x hx
def flatB (l : List ByteArray) : ByteArray := l.foldl (fun t x => t ++ slashB ++ x) ⟨#[]⟩
theorem flat_snoc (l : List ByteArray) (j : Nat) (x : ByteArray) (h : l[j]? = some x) : flatB (l.take (j + 1)) = flatB (l.take j) ++ slashB ++ x := by
  rw [List.take_add_one, h]
  simp [flatB]
theorem flat_size (M : Nat) : ∀ (l : List ByteArray) (t : ByteArray), (∀ x ∈ l, x.size ≤ M) → (l.foldl (fun t x => t ++ slashB ++ x) t).size ≤ t.size + l.length * (M + 1)
  | [], t, _ => by simp
  | y :: l, t, h => by
    have h1 := flat_size M l (t ++ slashB ++ y) (fun x hx => h x (List.mem_cons_of_mem _ hx))
    have h2 := h y (List.mem_cons_self ..)
    refine Nat.le_trans h1 ?_
    rw [ByteArray.size_append, ByteArray.size_append, List.length_cons, Nat.succ_mul, show slashB.size = 1 from rfl]
    omega
def partsR (s : ByteArray) : List ByteArray := (scanP s (s.size + 1)).1
def absR (s : ByteArray) : ByteArray := if s = ⟨#[]⟩ then ⟨#[]⟩ else if flatB (pileB (partsR s)) = ⟨#[]⟩ then slashB else flatB (pileB (partsR s))
theorem own_cells {w : World} {B g cap n : Nat} {xs : List Value} (h : w.ownsRow B 9 1 (.slice (some ⟨g, 0, none⟩) n cap) n xs) : g < w.heap.size ∧ B ≤ g ∧ ∀ j u, xs[j]? = some u → w.cell? ⟨g, j, none⟩ = some u := by
  have h1 := h.lt g rfl
  refine ⟨h1.2, h1.1, fun j u hu => ?_⟩
  have h2 := h.cells (g := g) rfl j u hu
  rw [Addr.add_lit, Nat.zero_add] at h2
  exact h2

set_option maxHeartbeats 4000000 in
set_option maxRecDepth 100000 in
theorem ref_Abs (s : ByteArray) (hs : s.size ≤ 1000000) (w : World) :
    Calls Tryd.prog 17 #[.string s] w fun e w' => e = .returned (.string (absR s)) ∧ Below w.heap.size w w' := by
  obtain ⟨i0, hi, hz0, hz1, hz2⟩ := info_parts str_info
  have HRA := Lib.hid (show absR s = if s = ⟨#[]⟩ then ⟨#[]⟩ else if flatB (pileB (partsR s)) = ⟨#[]⟩ then slashB else flatB (pileB (partsR s)) from rfl)
  have HPA := Lib.hid (show ∀ w, Calls Tryd.prog 25 #[.string s] w fun e w' => ∃ v, e = .returned v ∧ w'.ownsRow w.heap.size 9 1 v (partsR s).length ((partsR s).map Value.string) ∧ Below w.heap.size w w' from fun w => ref_Parts s hs w)
  have hpn : (partsR s).length ≤ 1000001 := Nat.le_trans (scan_len s _) (by omega)
  have hpg : ∀ x ∈ partsR s, ¬ x = ⟨#[]⟩ ∧ x.size ≤ 1000000 := fun x hx => by have := scan_good s _ (Nat.le_refl _) x hx; exact ⟨this.1, by omega⟩
  obtain ⟨P, hP⟩ : ∃ P, partsR s = P := ⟨_, rfl⟩
  rw [hP] at HRA HPA hpn hpg
  have HPG := Lib.hid hpg
  clear hP hpg
  go_enter Tryd.func17, Tryd.ntmps17
  go_wp2_with (go_at_call 25; refine (HPA.out w).mono ?_; rintro e w1 ⟨v, rfl, hown, hb⟩; have HO1 := Lib.hid hown; have HB1 := Lib.hid hb; clear hown hb)
  · have hemp := of_decide_eq_true (toList_empty ‹s.toList.isEmpty = true›)
    go_ret
    exact ⟨by rw [HRA.out, if_pos hemp]; rfl, Below.refl _ _⟩
  have HEMP := Lib.hid (of_decide_eq_false (toList_empty ‹s.toList.isEmpty = false›))
  have HC1 : Hid ((v = .slice none 0 0 ∧ P = []) ∨ ∃ g cap, v = .slice (some ⟨g, 0, none⟩) P.length cap ∧ g < w1.heap.size ∧ ∀ (j : Nat) x, P[j]? = some x → w1.cell? ⟨g, j, none⟩ = some (.string x)) := Lib.hid (by
    rcases HO1.out.2 with ⟨h1, h2⟩ | ⟨g, cap, cur, rfl, _⟩
    · exact .inl ⟨h1, List.length_eq_zero_iff.1 h2⟩
    · have := own_cells HO1.out
      exact .inr ⟨g, cap, rfl, this.1, fun j x hx => this.2.2 j _ (by rw [List.getElem?_map, hx]; rfl)⟩)
  clear HO1
  rcases HC1.out with ⟨rfl, rfl⟩ | ⟨g, cap, rfl, hg, hc⟩
  · go_loopw [3, 5] (fun v3 v5 wr => v3 = .slice none 0 0 ∧ v5 = .int .i64 0 ∧ wr = w1) (fun _ _ _ => 0)
    case atStart => exact ⟨rfl, rfl, rfl⟩
    case round =>
      obtain ⟨rfl, rfl, rfl⟩ := hrel
      go_wp2
      go_loopw [6, 7] (fun v6 v7 ws => v7 = .int .i64 0 ∧ v6 = .string ⟨#[]⟩ ∧ ws = wr) (fun _ _ _ => 0)
      case atStart => exact ⟨rfl, rfl, rfl⟩
      case round =>
        obtain ⟨rfl, rfl, rfl⟩ := hrel
        go_wp2
        go_ret
        exact ⟨by rw [HRA.out, if_neg HEMP.out, if_pos (by rfl)]; rfl, HB1.out⟩
  · have HG := Lib.hid hg
    have HCE := Lib.hid hc
    clear hg hc HC1
    go_loopw [3, 5] (fun v3 v5 wr => ∃ (i : Nat) (pl : List ByteArray), i ≤ P.length ∧ v5 = .int .i64 i ∧ pl.length ≤ i ∧ Hid (pileB (P.take i) = pl) ∧ Hid (wr.ownsRow w1.heap.size 9 1 v3 pl.length (pl.map Value.string)) ∧ Hid (Below w1.heap.size w1 wr)) (fun _ i _ => P.length - (intOf i).toNat)
    case atStart => exact ⟨0, [], Nat.zero_le _, rfl, Nat.le_refl _, Lib.hid rfl, Lib.hid (World.ownsRow_nil _ _ _ _), Lib.hid (Below.refl _ _)⟩
    case round =>
      obtain ⟨i, pl, hin, rfl, hpi, HPL, HO, HB⟩ := hrel
      by_cases hlt : i < P.length
      · obtain ⟨x, hx⟩ : ∃ x, P[i]? = some x := ⟨P[i]'hlt, List.getElem?_eq_getElem _⟩
        have HX := Lib.hid hx
        have HNE := Lib.hid (HPG.out x (List.mem_of_getElem? hx)).1
        have hc : wr.cell? ⟨g, i, none⟩ = some (.string x) := (HB.out.cell HG.out).trans (HCE.out i x hx)
        have HPN := Lib.hid (pileB_snoc P i x hx)
        rw [HPL.out] at HPN
        clear hx
        rcases HO.out.2 with ⟨rfl, hl0⟩ | ⟨g3, cap3, cur3, rfl, hg3⟩
        · obtain rfl := List.length_eq_zero_iff.1 hl0
          clear hl0
          go_wp2_with (at_builtin; refine wpList_append_own _ rfl _ _ 26 rfl w1.heap.size 9 i0 (.string ⟨#[]⟩) 1 16 Tryd.underlying26 hi hz0 hz1 hz2 rfl (by decide) _ _ _ rfl (HO.out.alloc _) ⟨_, 0, none⟩ 1 1 [.string x] rfl rfl (one_new _ _ _) (by simp [Value.oneCell']) (by unfold maxLen; omega) (by omega) (by have := HB.out.size; simp; omega) ?_; intro v' w4 hown' hgr hnil; have HO' := Lib.hid hown'; have HB' := Lib.hid ((HB.out.alloc HB.out.size _).grown hgr (by have := HB.out.size; simp; omega) (fun j hj => (HO.out.lt j hj).1)); clear hown' hgr hnil)
          all_goals first
            | (have h1 := of_decide_eq_true (toList_is ‹(x.toList == [46]) = true›)
               refine ⟨⟨i + 1, _, by omega, by go_num, ?_, Lib.hid (HPN.out.trans (step_skip (Or.inr h1))), HO, HB⟩, by simp [intOf]; omega⟩
               first | (simp; done) | omega
               done)
            | (have h1 := of_decide_eq_true (toList_is ‹(x.toList == [46, 46]) = true›)
               refine ⟨⟨i + 1, _, by omega, by go_num, ?_, Lib.hid (HPN.out.trans (step_up h1)), HO, HB⟩, by simp [intOf]; omega⟩
               simp
               done)
            | (have h2 := of_decide_eq_false (toList_is ‹(x.toList == [46]) = false›)
               have h3 := of_decide_eq_false (toList_is ‹(x.toList == [46, 46]) = false›)
               refine ⟨⟨i + 1, _, by omega, by go_num, ?_, Lib.hid (HPN.out.trans (step_push HNE.out h2 h3)), Lib.hid (by simpa using HO'.out), HB'⟩, by simp [intOf]; omega⟩
               first | (simp; done) | (simp; omega)
               done)
            | trace_state
        · have hcap : pl.length ≤ cap3 := hg3.2.2.1
          clear hg3
          have HC3 := Lib.hid (show ∀ j u, ((pl.take (max ((pl.length : Int) - 1) 0).toNat).map Value.string)[j]? = some u → wr.cell? ((⟨g3, 0, none⟩ : Addr).add j) = some u from fun j u hu => by
            rw [Addr.add_lit, Nat.zero_add]
            refine (own_cells HO.out).2.2 j u ?_
            rw [List.map_take, List.getElem?_take] at hu
            split at hu
            · exact hu
            · cases hu)
          go_wp2_with (at_builtin; first | (refine wpList_append_own _ rfl _ _ 26 rfl w1.heap.size 9 i0 (.string ⟨#[]⟩) 1 16 Tryd.underlying26 hi hz0 hz1 hz2 rfl (by decide) (.slice none 0 0) 0 [] rfl (World.ownsRow_nil _ _ _ _) ⟨g3, 0, none⟩ (max ((pl.length : Int) - 1) 0).toNat _ ((pl.take (max ((pl.length : Int) - 1) 0).toNat).map Value.string) rfl (by rw [List.length_map, List.length_take]; omega) HC3.out (fun u hu => by obtain ⟨y, _, rfl⟩ := List.mem_map.1 hu; rfl) (by unfold maxLen; omega) (by omega) HB.out.size ?_; intro v' w4 hown' hgr hnil; have HO' := Lib.hid hown'; have HB' := Lib.hid (HB.out.grown hgr HB.out.size (fun j hj => by cases hj)); clear hown' hgr hnil) | (refine wpList_append_own _ rfl _ _ 26 rfl w1.heap.size 9 i0 (.string ⟨#[]⟩) 1 16 Tryd.underlying26 hi hz0 hz1 hz2 rfl (by decide) _ _ _ rfl (HO.out.alloc _) ⟨_, 0, none⟩ 1 1 [.string x] rfl rfl (one_new _ _ _) (by simp [Value.oneCell']) (by unfold maxLen; omega) (by omega) (by have := HB.out.size; simp; omega) ?_; intro v' w4 hown' hgr hnil; have HO' := Lib.hid hown'; have HB' := Lib.hid ((HB.out.alloc HB.out.size _).grown hgr (by have := HB.out.size; simp; omega) (fun j hj => (HO.out.lt j hj).1)); clear hown' hgr hnil))
          all_goals first
            | (have h1 := of_decide_eq_true (toList_is ‹(x.toList == [46]) = true›)
               refine ⟨⟨i + 1, _, by omega, by go_num, ?_, Lib.hid (HPN.out.trans (step_skip (Or.inr h1))), HO, HB⟩, by simp [intOf]; omega⟩
               first | (simp; done) | omega
               done)
            | (have h1 := of_decide_eq_true (toList_is ‹(x.toList == [46, 46]) = true›)
               refine ⟨⟨i + 1, _, by omega, by go_num, ?_, Lib.hid (HPN.out.trans (step_up h1)), Lib.hid ?_, HB'⟩, by simp [intOf]; omega⟩
               · rw [List.length_take]; omega
               · have h5 := HO'.out
                 rw [show (max ((pl.length : Int) - 1) 0).toNat = pl.length - 1 by omega, List.nil_append, Nat.zero_add] at h5
                 rw [List.length_take, Nat.min_eq_left (Nat.sub_le _ _)]
                 exact h5
               done)
            | (have h2 := of_decide_eq_false (toList_is ‹(x.toList == [46]) = false›)
               have h3 := of_decide_eq_false (toList_is ‹(x.toList == [46, 46]) = false›)
               refine ⟨⟨i + 1, _, by omega, by go_num, ?_, Lib.hid (HPN.out.trans (step_push HNE.out h2 h3)), Lib.hid (by simpa using HO'.out), HB'⟩, by simp [intOf]; omega⟩
               first | (simp; done) | (simp; omega)
               done)
            | trace_state
      · obtain rfl : i = P.length := by omega
        rw [List.take_length] at HPL
        clear hlt
        have hsz := (pile_bounds 1000000 P [] (fun x hx => (HPG.out x hx).2) (by simp)).1
        rw [show P.foldl stepB [] = pl from HPL.out] at hsz
        have HSZ := Lib.hid hsz
        rw [HPL.out] at HRA
        clear hsz
        have HFS := Lib.hid (show ∀ j, j ≤ pl.length → (flatB (pl.take j)).size ≤ 1000001 * 1000001 from fun j hj => by
          have h1 := flat_size 1000000 (pl.take j) ⟨#[]⟩ (fun x hx => HSZ.out x (List.mem_of_mem_take hx))
          have h2 : (pl.take j).length * (1000000 + 1) ≤ 1000001 * (1000000 + 1) := Nat.mul_le_mul_right _ (by rw [List.length_take]; omega)
          have h3 : (⟨#[]⟩ : ByteArray).size = 0 := rfl
          unfold flatB
          omega)
        have HB2 := Lib.hid (HB1.out.trans (HB.out.mono HB1.out.size))
        rcases HO.out.2 with ⟨rfl, hl0⟩ | ⟨g3, cap3, cur3, rfl, hg3⟩
        · obtain rfl := List.length_eq_zero_iff.1 hl0
          clear hl0
          go_wp2
          go_loopw [6, 7] (fun v6 v7 ws => v7 = .int .i64 0 ∧ v6 = .string ⟨#[]⟩ ∧ ws = wr) (fun _ _ _ => 0)
          case atStart => exact ⟨rfl, rfl, rfl⟩
          case round =>
            obtain ⟨rfl, rfl, rfl⟩ := hrel
            go_wp2
            go_ret
            exact ⟨by rw [HRA.out, if_neg HEMP.out, if_pos (by rfl)]; rfl, HB2.out⟩
        · have hcap : pl.length ≤ cap3 := hg3.2.2.1
          clear hg3
          go_wp2
          go_loopw [6, 7] (fun v6 v7 ws => ∃ j : Nat, j ≤ pl.length ∧ v7 = .int .i64 j ∧ v6 = .string (flatB (pl.take j)) ∧ ws = wr) (fun _ j _ => pl.length - (intOf j).toNat)
          case atStart => exact ⟨0, Nat.zero_le _, rfl, rfl, rfl⟩
          case round =>
            obtain ⟨j, hjn, rfl, rfl, rfl⟩ := hrel
            by_cases hlt : j < pl.length
            · obtain ⟨x, hx⟩ : ∃ x, pl[j]? = some x := ⟨pl[j]'hlt, List.getElem?_eq_getElem _⟩
              have HFN := Lib.hid (flat_snoc pl j x hx)
              have hc := (own_cells HO.out).2.2 j (.string x) (by rw [List.getElem?_map, hx]; rfl)
              have hxs := HSZ.out x (List.mem_of_getElem? hx)
              have hfs := HFS.out j hjn
              clear hx
              obtain ⟨t, ht⟩ : ∃ t, flatB (pl.take j) = t := ⟨_, rfl⟩
              rw [ht] at HFN hfs ⊢
              clear ht
              go_wp2
              refine ⟨⟨j + 1, by omega, by go_num, ?_, trivial⟩, by simp [intOf]; omega⟩
              rw [HFN.out]
              rfl
            · obtain rfl : j = pl.length := by omega
              rw [List.take_length]
              obtain ⟨t, ht⟩ : ∃ t, flatB pl = t := ⟨_, rfl⟩
              rw [ht] at HRA ⊢
              clear ht
              go_wp2
              · have h1 := of_decide_eq_true (toList_empty ‹t.toList.isEmpty = true›)
                go_ret
                exact ⟨by rw [HRA.out, if_neg HEMP.out, if_pos h1]; rfl, HB2.out⟩
              · have h1 := of_decide_eq_false (toList_empty ‹t.toList.isEmpty = false›)
                go_ret
                exact ⟨by rw [HRA.out, if_neg HEMP.out, if_neg h1]; rfl, HB2.out⟩
end Go.Proofs.YtpoekljclapbfaaDoor.G
