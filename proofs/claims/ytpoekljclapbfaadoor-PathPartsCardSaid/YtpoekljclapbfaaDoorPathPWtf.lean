/- The law PathParts: its walk, one of four. -/
import Derived.Test.YtpoekljclapbfaaDoorPathPW
namespace Go.Proofs.YtpoekljclapbfaaDoor.G
open Go.RowKit
set_option linter.unusedVariables false

set_option maxHeartbeats 40000000 in
set_option maxRecDepth 100000 in
theorem pathParts_true_false (a0 : Option Addr) (len0 cap0 : Nat) (z0 : List Int) (w : World) (hm : ∃ m, w.cell? ⟨0, 0, none⟩ = some (.int .i64 m)) (hz : ∀ j, j < len0 → (Lit.int .i64 (z0.getD j 0)).wf = true)
    (hidx : ∀ k, k < len0 → ∃ b off, a0 = some ⟨b, off, none⟩ ∧ b < w.heap.size ∧ ∀ j, j < len0 → w.cell? ⟨b, off + j, none⟩ = some (.int .i64 (z0.getD j 0))) :
    Calls Tryd.prog 4 #[.slice a0 len0 cap0, .bool true, .bool false] w fun e w' => e = .returned (.bool true) ∧ Below w.heap.size w w' := by
  obtain ⟨i0, hi, hz0, hz1, hz2⟩ := info_parts str_info
  have HIDX := Lib.hid hidx
  have WF := Lib.hid hz
  clear hidx hz
  go_enter Tryd.func4, Tryd.ntmps4
  go_wp2
  go_loopw [7, 8, 9] (fun v7 v8 v9 wr => ∃ (n : Int) (s : ByteArray) (pl : List ByteArray), 0 ≤ n ∧ n ≤ 20 ∧ v9 = .int .i64 n ∧ v7 = .string s ∧ (s.size : Int) ≤ 6 * n ∧ (pl.length : Int) ≤ n ∧ Hid (pileB (partsB s) = pl) ∧ Hid (n ≤ 0 → s = ⟨#[]⟩) ∧ Hid (∀ y ∈ pl, Plain y) ∧ Hid (wr.ownsRow w.heap.size 9 1 v8 pl.length (pl.map Value.string)) ∧ Hid (Below w.heap.size w wr)) (fun _ _ i _ => 20 - (intOf i).toNat)
  case atStart => exact ⟨0, ⟨#[]⟩, [], Int.le_refl _, by omega, rfl, rfl, by decide, by decide, Lib.hid (by decide +kernel), Lib.hid (fun _ => rfl), Lib.hid (fun y hy => by cases hy), Lib.hid (World.ownsRow_nil _ _ _ _), Lib.hid (Below.refl _ _)⟩
  case round =>
    obtain ⟨n, s, pl, hn0, hin, rfl, rfl, hsi, hpi, HPI, HS0, HPL, HO, HB1⟩ := hrel
    by_cases hlt : n < len0 ∧ n < 20
    · obtain ⟨b, off, rfl, hb, hcell⟩ := HIDX.out n.toNat (by omega)
      have hcx := (HB1.out.cell (p := ⟨b, off + n.toNat, none⟩) (by exact hb)).trans (hcell n.toNat (by omega))
      have hk1 := hlt.1
      have hk2 := hlt.2
      have HW := Lib.hid (WF.out n.toNat (by omega))
      clear hcell hlt
      obtain ⟨z, hzz⟩ : ∃ z, z0.getD n.toNat 0 = z := ⟨_, rfl⟩
      rw [hzz] at hcx HW
      clear hzz
      have hx0 := ix0
      have hx1 := ix1
      have hx2 := ix2
      have hx3 := ix3
      have hx4 := ix4
      have hx5 := ix5
      have hx6 := ix6
      rcases HO.out.2 with ⟨rfl, hl0⟩ | ⟨g3, cap3, cur3, rfl, hg3⟩
      · obtain rfl := List.length_eq_zero_iff.1 hl0
        clear hl0
        go_wp2_with (first
          | (go_at_call 18; refine (place_seven _ (HW.out) _).mono ?_; rintro e w2 ⟨t, ht, rfl, rfl⟩; have h7 : t = 0 ∨ t = 1 ∨ t = 2 ∨ t = 3 ∨ t = 4 ∨ t = 5 ∨ t = 6 := (by omega); clear ht; rcases h7 with rfl | rfl | rfl | rfl | rfl | rfl | rfl)
          | (at_builtin; refine wpList_append_own _ rfl _ _ 26 rfl w.heap.size 9 i0 (.string ⟨#[]⟩) 1 16 Tryd.underlying26 hi hz0 hz1 hz2 rfl (by decide) _ _ _ rfl (HO.out.alloc _) ⟨_, 0, none⟩ 1 1 [.string _] rfl rfl (one_new _ _ _) (by simp [Value.oneCell']) (by unfold maxLen; omega) (by omega) (by have := HB1.out.size; simp; omega) ?_; intro v' w4 hown' hgr hnil; have HO' := Lib.hid hown'; have HB' := Lib.hid ((HB1.out.alloc HB1.out.size _).grown hgr (by have := HB1.out.size; simp; omega) (fun j hj => (HO.out.lt j hj).1)); clear hown' hgr hnil))
        all_goals go_roundw
        all_goals first
          | (show (_ : Nat) < _; simp [intOf]; omega)
          | (first
              | refine ⟨n + 1, _, _, by omega, by omega, by go_num, rfl, ?sz, ?ln, Lib.hid (pile_slash' HPI.out (by unfold NoSl; decide)), Lib.hid (fun h => absurd h (by omega)), Lib.hid (step_plain (by unfold NoSl; decide) HPL.out), ?own⟩
              | refine ⟨n + 1, _, _, by omega, by omega, by go_num, rfl, ?sz, ?ln, Lib.hid (pile_none' HPI.out (HS0.out (by omega)) (by unfold NoSl; decide)), Lib.hid (fun h => absurd h (by omega)), Lib.hid (step_plain (by unfold NoSl; decide) HPL.out), ?own⟩
             case sz => first | exact sz1 (by decide) hsi | exact sz2 (by decide) hsi
             case ln => (refine Int.le_trans (Int.ofNat_le.2 (len_stepB _ _)) ?_; simp; try omega)
             case own =>
               first
                 | (rw [step_skip (by decide)]; exact ⟨HO, HB1⟩)
                 | (rw [step_push (by decide) (by decide) (by decide)]; exact ⟨Lib.hid (by simpa using HO'.out), HB'⟩)
                 | (rw [step_up (x := ⟨#[46, 46]⟩) rfl]; exact ⟨HO, HB1⟩)
             done)
          | trace_state
      · have hcap : pl.length ≤ cap3 := hg3.2.2.1
        clear hg3
        have HC3 := Lib.hid (show ∀ j u, ((pl.take (max ((pl.length : Int) - 1) 0).toNat).map Value.string)[j]? = some u → wr.cell? ((⟨g3, 0, none⟩ : Addr).add j) = some u from fun j u hu => by
          rw [Addr.add_lit, Nat.zero_add]
          refine (own_cells HO.out).2.2 j u ?_
          rw [List.map_take, List.getElem?_take] at hu
          split at hu
          · exact hu
          · cases hu)
        have HC4 := Lib.hid (show ∀ j u, (pl.map Value.string)[j]? = some u → wr.cell? ((⟨g3, 0, none⟩ : Addr).add j) = some u from fun j u hu => by
          rw [Addr.add_lit, Nat.zero_add]
          exact (own_cells HO.out).2.2 j u hu)
        go_wp2_with (first
          | (go_at_call 18; refine (place_seven _ (HW.out) _).mono ?_; rintro e w2 ⟨t, ht, rfl, rfl⟩; have h7 : t = 0 ∨ t = 1 ∨ t = 2 ∨ t = 3 ∨ t = 4 ∨ t = 5 ∨ t = 6 := (by omega); clear ht; rcases h7 with rfl | rfl | rfl | rfl | rfl | rfl | rfl)
          | (at_builtin; first | (refine wpList_append_own _ rfl _ _ 26 rfl w.heap.size 9 i0 (.string ⟨#[]⟩) 1 16 Tryd.underlying26 hi hz0 hz1 hz2 rfl (by decide) (.slice none 0 0) 0 [] rfl (World.ownsRow_nil _ _ _ _) ⟨g3, 0, none⟩ (max ((pl.length : Int) - 1) 0).toNat _ ((pl.take (max ((pl.length : Int) - 1) 0).toNat).map Value.string) rfl (by rw [List.length_map, List.length_take]; omega) HC3.out (fun u hu => by obtain ⟨y, _, rfl⟩ := List.mem_map.1 hu; rfl) (by unfold maxLen; omega) (by omega) HB1.out.size ?_; intro v' w4 hown' hgr hnil; have HO' := Lib.hid hown'; have HB' := Lib.hid (HB1.out.grown hgr HB1.out.size (fun j hj => by cases hj)); clear hown' hgr hnil) | (refine wpList_append_own _ rfl _ _ 26 rfl w.heap.size 9 i0 (.string ⟨#[]⟩) 1 16 Tryd.underlying26 hi hz0 hz1 hz2 rfl (by decide) (.slice none 0 0) 0 [] rfl (World.ownsRow_nil _ _ _ _) ⟨g3, 0, none⟩ pl.length _ (pl.map Value.string) rfl (by rw [List.length_map]; omega) HC4.out (fun u hu => by obtain ⟨y, _, rfl⟩ := List.mem_map.1 hu; rfl) (by unfold maxLen; omega) (by omega) HB1.out.size ?_; intro vc wc howc hgc hnc; have HOC := Lib.hid howc; have HBC := Lib.hid (HB1.out.grown hgc HB1.out.size (fun j hj => by cases hj)); clear howc hgc hnc) | (refine wpList_append_own _ rfl _ _ 26 rfl w.heap.size 9 i0 (.string ⟨#[]⟩) 1 16 Tryd.underlying26 hi hz0 hz1 hz2 rfl (by decide) _ _ _ rfl (HOC.out.alloc _) ⟨_, 0, none⟩ 1 1 [.string _] rfl rfl (one_new _ _ _) (by simp [Value.oneCell']) (by unfold maxLen; omega) (by omega) (by have := HBC.out.size; simp; omega) ?_; intro v' w4 hown' hgr hnil; have HO' := Lib.hid hown'; have HB' := Lib.hid ((HBC.out.alloc HBC.out.size _).grown hgr (by have := HBC.out.size; simp; omega) (fun j hj => (HOC.out.lt j hj).1)); clear hown' hgr hnil)))
        all_goals go_roundw
        all_goals first
          | (show (_ : Nat) < _; simp [intOf]; omega)
          | (first
              | refine ⟨n + 1, _, _, by omega, by omega, by go_num, rfl, ?sz, ?ln, Lib.hid (pile_slash' HPI.out (by unfold NoSl; decide)), Lib.hid (fun h => absurd h (by omega)), Lib.hid (step_plain (by unfold NoSl; decide) HPL.out), ?own⟩
              | refine ⟨n + 1, _, _, by omega, by omega, by go_num, rfl, ?sz, ?ln, Lib.hid (pile_none' HPI.out (HS0.out (by omega)) (by unfold NoSl; decide)), Lib.hid (fun h => absurd h (by omega)), Lib.hid (step_plain (by unfold NoSl; decide) HPL.out), ?own⟩
             case sz => first | exact sz1 (by decide) hsi | exact sz2 (by decide) hsi
             case ln => (refine Int.le_trans (Int.ofNat_le.2 (len_stepB _ _)) ?_; simp; try omega)
             case own =>
               first
                 | (rw [step_skip (by decide)]; exact ⟨HO, HB1⟩)
                 | (rw [step_push (by decide) (by decide) (by decide)]; exact ⟨Lib.hid (by simpa using HO'.out), HB'⟩)
                 | (rw [step_up (x := ⟨#[46, 46]⟩) rfl]; refine ⟨Lib.hid ?_, HB'⟩; have h5 := HO'.out; rw [show (max ((pl.length : Int) - 1) 0).toNat = pl.length - 1 by omega, List.nil_append, Nat.zero_add] at h5; rw [List.length_take, Nat.min_eq_left (Nat.sub_le _ _)]; exact h5)
             done)
          | trace_state
    · skip
      obtain ⟨S, hS⟩ : ∃ S, s = S := ⟨_, rfl⟩
      have hss : S.size ≤ 200 := by
        rw [← hS]
        omega
      have hpS : pileB (partsB S) = pl := by
        rw [← hS]
        exact HPI.out
      have hpl20 : pl.length ≤ 20 := by omega
      have HSS := Lib.hid hS
      have HPS := Lib.hid hpS
      have hsz := (pile_bounds 200 (partsB S) [] (fun x hx => split_sizes 200 _ S hss x hx) (by simp)).1
      rw [show (partsB S).foldl stepB [] = pl from hpS] at hsz
      have HSZ := Lib.hid hsz
      clear hS hpS hsz
      have HFS := Lib.hid (show ∀ j, j ≤ pl.length → (flatB (pl.take j)).size ≤ 20 * 201 from fun j hj => by
        have h1 := flat_size 200 (pl.take j) ⟨#[]⟩ (fun x hx => HSZ.out x (List.mem_of_mem_take hx))
        have h2 : (pl.take j).length * (200 + 1) ≤ 20 * (200 + 1) := Nat.mul_le_mul_right _ (by rw [List.length_take]; omega)
        have h3 : (⟨#[]⟩ : ByteArray).size = 0 := rfl
        unfold flatB
        omega)
      have HAB := Lib.hid (abs_of S)
      rw [HPS.out] at HAB
      have HAG := Lib.hid (abs_again pl HPL.out)
      have HDI := Lib.hid (dir_notdir S)
      have HBS := Lib.hid (base_suf S)
      have HC1 := Lib.hid (path_Dir S (by omega))
      have HC2 := Lib.hid (path_Notdir S (by omega))
      have HC3 := Lib.hid (path_Suffix S (by omega))
      have HC4 := Lib.hid (path_Base S (by omega))
      have HC5 := Lib.hid (fun w hm => path_Abs S (by omega) w hm)
      obtain ⟨bb, hbb⟩ : ∃ bb, baseB S = bb := ⟨_, rfl⟩
      obtain ⟨cc, hcc⟩ : ∃ cc, sufB S = cc := ⟨_, rfl⟩
      rw [hbb] at HC4 HBS
      rw [hcc] at HC3 HBS
      have hbc : bb.size + cc.size ≤ 200 := by
        have := congrArg ByteArray.size HBS.out
        rw [ByteArray.size_append] at this
        omega
      clear hbb hcc
      rcases HO.out.2 with ⟨rfl, hl0⟩ | ⟨g3, cap3, cur3, rfl, hg3⟩
      · obtain rfl := List.length_eq_zero_iff.1 hl0
        clear hl0
        go_wp2
        all_goals
          (try rw [HSS.out])
          go_loopw [11, 12] (fun v11 v12 ws => v12 = .int .i64 0 ∧ v11 = .string (flatB []) ∧ ws = wr) (fun _ _ _ => 0)
          case atStart => exact ⟨rfl, rfl, rfl⟩
          case round =>
            obtain ⟨rfl, rfl, rfl⟩ := hrel
            have hdi := HDI.out
            obtain hte : flatB [] = ⟨#[]⟩ := rfl
            rw [if_pos hte] at HAB
            rw [hte]
            by_cases hse : S = ⟨#[]⟩
            · subst hse
              rw [if_pos rfl] at HAB
              have HC6 := Lib.hid (fun w hm => path_Abs ⟨#[]⟩ (by decide) w hm)
              rw [HAB.out] at HC5 HC6
              have hd1 : dirB ⟨#[]⟩ = ⟨#[46, 47]⟩ := by decide +kernel
              have hd2 : notdirB ⟨#[]⟩ = ⟨#[]⟩ := by decide +kernel
              rw [hd1] at HC1
              rw [hd2] at HC2
              have HDD := Lib.hid hd1
              clear hd1 hd2
              have K1 : Hid True := trivial
              have K2 : Hid True := trivial
              go_wp2_with (first | (go_at_call 8; refine (HC1.out _).mono ?_; rintro e q1 ⟨rfl, rfl⟩) | (go_at_call 10; refine (HC2.out _).mono ?_; rintro e q2 ⟨rfl, rfl⟩) | (go_at_call 12; refine (HC3.out _).mono ?_; rintro e q3 ⟨rfl, rfl⟩) | (go_at_call 14; refine (HC4.out _).mono ?_; rintro e q4 ⟨rfl, rfl⟩) | (clear K1; go_at_call 16; refine (HC5.out _ (max_kept hm HB1.out)).mono ?_; rintro e q5 ⟨rfl, hb⟩; have HBA := Lib.hid (HB1.out.trans (hb.mono HB1.out.size)); clear hb) | (clear K2; go_at_call 16; refine (HC5.out _ (max_kept hm HBA.out)).mono ?_; rintro e q6 ⟨rfl, hb⟩; have HBB := Lib.hid (HBA.out.trans (hb.mono HBA.out.size)); clear hb) | (go_at_call 16; refine (HC6.out _ (max_kept hm HBB.out)).mono ?_; rintro e q7 ⟨rfl, hb⟩; have HBC := Lib.hid (HBB.out.trans (hb.mono HBB.out.size)); clear hb) | (go_at_call 7; refine (awake04 _ (max_kept hm HBC.out)).mono ?_; rintro e q8 ⟨rfl, hb⟩; have HBW := Lib.hid (HBC.out.trans (hb.mono HBC.out.size)); clear hb))
              all_goals first
                | (go_ret; exact ⟨rfl, HBW.out⟩)
                | (exfalso; exact ‹¬ (bb ++ cc).toList = []› (by rw [HBS.out, ByteArray.toList_eq]))
                | (exfalso; exact ‹¬ ((⟨#[]⟩ : ByteArray) ++ ⟨#[]⟩).toList = []› (by rw [app_empty, ByteArray.toList_eq]))
                | trace_state
            · rw [if_neg hse] at HAB
              have HSE := Lib.hid hse
              clear hse
              have HC6 := Lib.hid (fun w hm => path_Abs ⟨#[47]⟩ (by decide) w hm)
              rw [HAB.out] at HC5
              rw [abs_slash] at HC6
              rcases hdi with ⟨hd1, hd2⟩ | ⟨hd1, hd2⟩
              · rw [hd1] at HC1
                rw [hd2] at HC2
                have HDD := Lib.hid hd1
                clear hd1 hd2
                have K1 : Hid True := trivial
                have K2 : Hid True := trivial
                go_wp2_with (first | (go_at_call 8; refine (HC1.out _).mono ?_; rintro e q1 ⟨rfl, rfl⟩) | (go_at_call 10; refine (HC2.out _).mono ?_; rintro e q2 ⟨rfl, rfl⟩) | (go_at_call 12; refine (HC3.out _).mono ?_; rintro e q3 ⟨rfl, rfl⟩) | (go_at_call 14; refine (HC4.out _).mono ?_; rintro e q4 ⟨rfl, rfl⟩) | (clear K1; go_at_call 16; refine (HC5.out _ (max_kept hm HB1.out)).mono ?_; rintro e q5 ⟨rfl, hb⟩; have HBA := Lib.hid (HB1.out.trans (hb.mono HB1.out.size)); clear hb) | (clear K2; go_at_call 16; refine (HC5.out _ (max_kept hm HBA.out)).mono ?_; rintro e q6 ⟨rfl, hb⟩; have HBB := Lib.hid (HBA.out.trans (hb.mono HBA.out.size)); clear hb) | (go_at_call 16; refine (HC6.out _ (max_kept hm HBB.out)).mono ?_; rintro e q7 ⟨rfl, hb⟩; have HBC := Lib.hid (HBB.out.trans (hb.mono HBB.out.size)); clear hb) | (go_at_call 7; refine (awake04 _ (max_kept hm HBC.out)).mono ?_; rintro e q8 ⟨rfl, hb⟩; have HBW := Lib.hid (HBC.out.trans (hb.mono HBC.out.size)); clear hb))
                all_goals first
                  | (go_ret; exact ⟨rfl, HBW.out⟩)
                  | (exfalso; exact ‹¬ (bb ++ cc).toList = S.toList› (by rw [HBS.out]))
                  | (exfalso; exact ‹¬ (dd ++ nn).toList = S.toList› (by rw [HDN.out]))
                  | (exfalso; exact ‹¬ ((⟨#[]⟩ : ByteArray) ++ S).toList = S.toList› (by rw [app_empty]))
                  | (exfalso; exact HNE.out (str_same ‹(nn.toList == S.toList) = true›))
                  | (exfalso; exact HSE.out (none_of ‹(!S.toList.isEmpty) = false›))
                  | (exfalso; exact HTE.out (none_is ‹t.toList = []›))
                  | trace_state
              · obtain ⟨dd, hdd⟩ : ∃ dd, dirB S = dd := ⟨_, rfl⟩
                obtain ⟨nn, hnn⟩ : ∃ nn, notdirB S = nn := ⟨_, rfl⟩
                rw [hdd] at HC1 hd2
                rw [hnn] at HC2 hd1 hd2
                have HDN := Lib.hid hd2
                have hdn : dd.size + nn.size ≤ 200 := by
                  have := congrArg ByteArray.size hd2
                  rw [ByteArray.size_append] at this
                  omega
                have HNE := Lib.hid hd1
                clear hdd hnn hd1 hd2
                have K1 : Hid True := trivial
                have K2 : Hid True := trivial
                go_wp2_with (first | (go_at_call 8; refine (HC1.out _).mono ?_; rintro e q1 ⟨rfl, rfl⟩) | (go_at_call 10; refine (HC2.out _).mono ?_; rintro e q2 ⟨rfl, rfl⟩) | (go_at_call 12; refine (HC3.out _).mono ?_; rintro e q3 ⟨rfl, rfl⟩) | (go_at_call 14; refine (HC4.out _).mono ?_; rintro e q4 ⟨rfl, rfl⟩) | (clear K1; go_at_call 16; refine (HC5.out _ (max_kept hm HB1.out)).mono ?_; rintro e q5 ⟨rfl, hb⟩; have HBA := Lib.hid (HB1.out.trans (hb.mono HB1.out.size)); clear hb) | (clear K2; go_at_call 16; refine (HC5.out _ (max_kept hm HBA.out)).mono ?_; rintro e q6 ⟨rfl, hb⟩; have HBB := Lib.hid (HBA.out.trans (hb.mono HBA.out.size)); clear hb) | (go_at_call 16; refine (HC6.out _ (max_kept hm HBB.out)).mono ?_; rintro e q7 ⟨rfl, hb⟩; have HBC := Lib.hid (HBB.out.trans (hb.mono HBB.out.size)); clear hb) | (go_at_call 7; refine (awake04 _ (max_kept hm HBC.out)).mono ?_; rintro e q8 ⟨rfl, hb⟩; have HBW := Lib.hid (HBC.out.trans (hb.mono HBC.out.size)); clear hb))
                all_goals first
                  | (go_ret; exact ⟨rfl, HBW.out⟩)
                  | (exfalso; exact ‹¬ (bb ++ cc).toList = S.toList› (by rw [HBS.out]))
                  | (exfalso; exact ‹¬ (dd ++ nn).toList = S.toList› (by rw [HDN.out]))
                  | (exfalso; exact ‹¬ ((⟨#[]⟩ : ByteArray) ++ S).toList = S.toList› (by rw [app_empty]))
                  | (exfalso; exact HNE.out (str_same ‹(nn.toList == S.toList) = true›))
                  | (exfalso; exact HSE.out (none_of ‹(!S.toList.isEmpty) = false›))
                  | (exfalso; exact HTE.out (none_is ‹t.toList = []›))
                  | trace_state
      · have hcap : pl.length ≤ cap3 := hg3.2.2.1
        clear hg3
        go_wp2
        all_goals
          (try rw [HSS.out])
          go_loopw [11, 12] (fun v11 v12 ws => ∃ j : Nat, j ≤ pl.length ∧ v12 = .int .i64 j ∧ v11 = .string (flatB (pl.take j)) ∧ ws = wr) (fun _ j _ => pl.length - (intOf j).toNat)
          case atStart => exact ⟨0, Nat.zero_le _, rfl, rfl, rfl⟩
          case round =>
            obtain ⟨j, hjn, rfl, rfl, rfl⟩ := hrel
            by_cases hlt : j < pl.length
            · obtain ⟨x, hx⟩ : ∃ x, pl[j]? = some x := ⟨pl[j]'hlt, List.getElem?_eq_getElem _⟩
              have HFN := Lib.hid (flat_snoc pl j x hx)
              have hc := (own_cells HO.out).2.2 j (.string x) (by rw [List.getElem?_map, hx]; rfl)
              have hxs := HSZ.out x (List.mem_of_getElem? hx)
              have hfs := HFS.out j hjn
              clear hx
              obtain ⟨t, ht⟩ : ∃ t, flatB (pl.take j) = t := ⟨_, rfl⟩
              rw [ht] at HFN hfs ⊢
              clear ht
              go_wp2
              refine ⟨⟨j + 1, by omega, by go_num, ?_, trivial⟩, by simp [intOf]; omega⟩
              rw [HFN.out]
              rfl
            · obtain rfl : j = pl.length := by omega
              clear hlt
              rw [List.take_length]
              have hdi := HDI.out
              by_cases hte : flatB pl = ⟨#[]⟩
              · rw [if_pos hte] at HAB
                rw [hte]
                by_cases hse : S = ⟨#[]⟩
                · subst hse
                  rw [if_pos rfl] at HAB
                  have HC6 := Lib.hid (fun w hm => path_Abs ⟨#[]⟩ (by decide) w hm)
                  rw [HAB.out] at HC5 HC6
                  have hd1 : dirB ⟨#[]⟩ = ⟨#[46, 47]⟩ := by decide +kernel
                  have hd2 : notdirB ⟨#[]⟩ = ⟨#[]⟩ := by decide +kernel
                  rw [hd1] at HC1
                  rw [hd2] at HC2
                  have HDD := Lib.hid hd1
                  clear hd1 hd2
                  have K1 : Hid True := trivial
                  have K2 : Hid True := trivial
                  go_wp2_with (first | (go_at_call 8; refine (HC1.out _).mono ?_; rintro e q1 ⟨rfl, rfl⟩) | (go_at_call 10; refine (HC2.out _).mono ?_; rintro e q2 ⟨rfl, rfl⟩) | (go_at_call 12; refine (HC3.out _).mono ?_; rintro e q3 ⟨rfl, rfl⟩) | (go_at_call 14; refine (HC4.out _).mono ?_; rintro e q4 ⟨rfl, rfl⟩) | (clear K1; go_at_call 16; refine (HC5.out _ (max_kept hm HB1.out)).mono ?_; rintro e q5 ⟨rfl, hb⟩; have HBA := Lib.hid (HB1.out.trans (hb.mono HB1.out.size)); clear hb) | (clear K2; go_at_call 16; refine (HC5.out _ (max_kept hm HBA.out)).mono ?_; rintro e q6 ⟨rfl, hb⟩; have HBB := Lib.hid (HBA.out.trans (hb.mono HBA.out.size)); clear hb) | (go_at_call 16; refine (HC6.out _ (max_kept hm HBB.out)).mono ?_; rintro e q7 ⟨rfl, hb⟩; have HBC := Lib.hid (HBB.out.trans (hb.mono HBB.out.size)); clear hb) | (go_at_call 7; refine (awake04 _ (max_kept hm HBC.out)).mono ?_; rintro e q8 ⟨rfl, hb⟩; have HBW := Lib.hid (HBC.out.trans (hb.mono HBC.out.size)); clear hb))
                  all_goals first
                    | (go_ret; exact ⟨rfl, HBW.out⟩)
                    | (exfalso; exact ‹¬ (bb ++ cc).toList = []› (by rw [HBS.out, ByteArray.toList_eq]))
                    | (exfalso; exact ‹¬ ((⟨#[]⟩ : ByteArray) ++ ⟨#[]⟩).toList = []› (by rw [app_empty, ByteArray.toList_eq]))
                    | trace_state
                · rw [if_neg hse] at HAB
                  have HSE := Lib.hid hse
                  clear hse
                  have HC6 := Lib.hid (fun w hm => path_Abs ⟨#[47]⟩ (by decide) w hm)
                  rw [HAB.out] at HC5
                  rw [abs_slash] at HC6
                  rcases hdi with ⟨hd1, hd2⟩ | ⟨hd1, hd2⟩
                  · rw [hd1] at HC1
                    rw [hd2] at HC2
                    have HDD := Lib.hid hd1
                    clear hd1 hd2
                    have K1 : Hid True := trivial
                    have K2 : Hid True := trivial
                    go_wp2_with (first | (go_at_call 8; refine (HC1.out _).mono ?_; rintro e q1 ⟨rfl, rfl⟩) | (go_at_call 10; refine (HC2.out _).mono ?_; rintro e q2 ⟨rfl, rfl⟩) | (go_at_call 12; refine (HC3.out _).mono ?_; rintro e q3 ⟨rfl, rfl⟩) | (go_at_call 14; refine (HC4.out _).mono ?_; rintro e q4 ⟨rfl, rfl⟩) | (clear K1; go_at_call 16; refine (HC5.out _ (max_kept hm HB1.out)).mono ?_; rintro e q5 ⟨rfl, hb⟩; have HBA := Lib.hid (HB1.out.trans (hb.mono HB1.out.size)); clear hb) | (clear K2; go_at_call 16; refine (HC5.out _ (max_kept hm HBA.out)).mono ?_; rintro e q6 ⟨rfl, hb⟩; have HBB := Lib.hid (HBA.out.trans (hb.mono HBA.out.size)); clear hb) | (go_at_call 16; refine (HC6.out _ (max_kept hm HBB.out)).mono ?_; rintro e q7 ⟨rfl, hb⟩; have HBC := Lib.hid (HBB.out.trans (hb.mono HBB.out.size)); clear hb) | (go_at_call 7; refine (awake04 _ (max_kept hm HBC.out)).mono ?_; rintro e q8 ⟨rfl, hb⟩; have HBW := Lib.hid (HBC.out.trans (hb.mono HBC.out.size)); clear hb))
                    all_goals first
                      | (go_ret; exact ⟨rfl, HBW.out⟩)
                      | (exfalso; exact ‹¬ (bb ++ cc).toList = S.toList› (by rw [HBS.out]))
                      | (exfalso; exact ‹¬ (dd ++ nn).toList = S.toList› (by rw [HDN.out]))
                      | (exfalso; exact ‹¬ ((⟨#[]⟩ : ByteArray) ++ S).toList = S.toList› (by rw [app_empty]))
                      | (exfalso; exact HNE.out (str_same ‹(nn.toList == S.toList) = true›))
                      | (exfalso; exact HSE.out (none_of ‹(!S.toList.isEmpty) = false›))
                      | (exfalso; exact HTE.out (none_is ‹t.toList = []›))
                      | trace_state
                  · obtain ⟨dd, hdd⟩ : ∃ dd, dirB S = dd := ⟨_, rfl⟩
                    obtain ⟨nn, hnn⟩ : ∃ nn, notdirB S = nn := ⟨_, rfl⟩
                    rw [hdd] at HC1 hd2
                    rw [hnn] at HC2 hd1 hd2
                    have HDN := Lib.hid hd2
                    have hdn : dd.size + nn.size ≤ 200 := by
                      have := congrArg ByteArray.size hd2
                      rw [ByteArray.size_append] at this
                      omega
                    have HNE := Lib.hid hd1
                    clear hdd hnn hd1 hd2
                    have K1 : Hid True := trivial
                    have K2 : Hid True := trivial
                    go_wp2_with (first | (go_at_call 8; refine (HC1.out _).mono ?_; rintro e q1 ⟨rfl, rfl⟩) | (go_at_call 10; refine (HC2.out _).mono ?_; rintro e q2 ⟨rfl, rfl⟩) | (go_at_call 12; refine (HC3.out _).mono ?_; rintro e q3 ⟨rfl, rfl⟩) | (go_at_call 14; refine (HC4.out _).mono ?_; rintro e q4 ⟨rfl, rfl⟩) | (clear K1; go_at_call 16; refine (HC5.out _ (max_kept hm HB1.out)).mono ?_; rintro e q5 ⟨rfl, hb⟩; have HBA := Lib.hid (HB1.out.trans (hb.mono HB1.out.size)); clear hb) | (clear K2; go_at_call 16; refine (HC5.out _ (max_kept hm HBA.out)).mono ?_; rintro e q6 ⟨rfl, hb⟩; have HBB := Lib.hid (HBA.out.trans (hb.mono HBA.out.size)); clear hb) | (go_at_call 16; refine (HC6.out _ (max_kept hm HBB.out)).mono ?_; rintro e q7 ⟨rfl, hb⟩; have HBC := Lib.hid (HBB.out.trans (hb.mono HBB.out.size)); clear hb) | (go_at_call 7; refine (awake04 _ (max_kept hm HBC.out)).mono ?_; rintro e q8 ⟨rfl, hb⟩; have HBW := Lib.hid (HBC.out.trans (hb.mono HBC.out.size)); clear hb))
                    all_goals first
                      | (go_ret; exact ⟨rfl, HBW.out⟩)
                      | (exfalso; exact ‹¬ (bb ++ cc).toList = S.toList› (by rw [HBS.out]))
                      | (exfalso; exact ‹¬ (dd ++ nn).toList = S.toList› (by rw [HDN.out]))
                      | (exfalso; exact ‹¬ ((⟨#[]⟩ : ByteArray) ++ S).toList = S.toList› (by rw [app_empty]))
                      | (exfalso; exact HNE.out (str_same ‹(nn.toList == S.toList) = true›))
                      | (exfalso; exact HSE.out (none_of ‹(!S.toList.isEmpty) = false›))
                      | (exfalso; exact HTE.out (none_is ‹t.toList = []›))
                      | trace_state
              · have hse : ¬ S = ⟨#[]⟩ := fun e => hte (by rw [← HPS.out, e, parts_nil]; rfl)
                rw [if_neg hse, if_neg hte] at HAB
                have HSE := Lib.hid hse
                have HTE := Lib.hid hte
                have hts := HFS.out pl.length (Nat.le_refl _)
                rw [List.take_length] at hts
                have HC6 := Lib.hid (fun w hm => path_Abs (flatB pl) (by omega) w hm)
                rw [HAG.out hte] at HC6
                rw [HAB.out] at HC5
                obtain ⟨t, ht⟩ : ∃ t, flatB pl = t := ⟨_, rfl⟩
                rw [ht] at HC5 HC6 HTE hts ⊢
                clear hse hte ht
                rcases hdi with ⟨hd1, hd2⟩ | ⟨hd1, hd2⟩
                · rw [hd1] at HC1
                  rw [hd2] at HC2
                  have HDD := Lib.hid hd1
                  clear hd1 hd2
                  have K1 : Hid True := trivial
                  have K2 : Hid True := trivial
                  go_wp2_with (first | (go_at_call 8; refine (HC1.out _).mono ?_; rintro e q1 ⟨rfl, rfl⟩) | (go_at_call 10; refine (HC2.out _).mono ?_; rintro e q2 ⟨rfl, rfl⟩) | (go_at_call 12; refine (HC3.out _).mono ?_; rintro e q3 ⟨rfl, rfl⟩) | (go_at_call 14; refine (HC4.out _).mono ?_; rintro e q4 ⟨rfl, rfl⟩) | (clear K1; go_at_call 16; refine (HC5.out _ (max_kept hm HB1.out)).mono ?_; rintro e q5 ⟨rfl, hb⟩; have HBA := Lib.hid (HB1.out.trans (hb.mono HB1.out.size)); clear hb) | (clear K2; go_at_call 16; refine (HC5.out _ (max_kept hm HBA.out)).mono ?_; rintro e q6 ⟨rfl, hb⟩; have HBB := Lib.hid (HBA.out.trans (hb.mono HBA.out.size)); clear hb) | (go_at_call 16; refine (HC6.out _ (max_kept hm HBB.out)).mono ?_; rintro e q7 ⟨rfl, hb⟩; have HBC := Lib.hid (HBB.out.trans (hb.mono HBB.out.size)); clear hb) | (go_at_call 7; refine (awake04 _ (max_kept hm HBC.out)).mono ?_; rintro e q8 ⟨rfl, hb⟩; have HBW := Lib.hid (HBC.out.trans (hb.mono HBC.out.size)); clear hb))
                  all_goals first
                    | (go_ret; exact ⟨rfl, HBW.out⟩)
                    | (exfalso; exact ‹¬ (bb ++ cc).toList = S.toList› (by rw [HBS.out]))
                    | (exfalso; exact ‹¬ (dd ++ nn).toList = S.toList› (by rw [HDN.out]))
                    | (exfalso; exact ‹¬ ((⟨#[]⟩ : ByteArray) ++ S).toList = S.toList› (by rw [app_empty]))
                    | (exfalso; exact HNE.out (str_same ‹(nn.toList == S.toList) = true›))
                    | (exfalso; exact HSE.out (none_of ‹(!S.toList.isEmpty) = false›))
                    | (exfalso; exact HTE.out (none_is ‹t.toList = []›))
                    | trace_state
                · obtain ⟨dd, hdd⟩ : ∃ dd, dirB S = dd := ⟨_, rfl⟩
                  obtain ⟨nn, hnn⟩ : ∃ nn, notdirB S = nn := ⟨_, rfl⟩
                  rw [hdd] at HC1 hd2
                  rw [hnn] at HC2 hd1 hd2
                  have HDN := Lib.hid hd2
                  have hdn : dd.size + nn.size ≤ 200 := by
                    have := congrArg ByteArray.size hd2
                    rw [ByteArray.size_append] at this
                    omega
                  have HNE := Lib.hid hd1
                  clear hdd hnn hd1 hd2
                  have K1 : Hid True := trivial
                  have K2 : Hid True := trivial
                  go_wp2_with (first | (go_at_call 8; refine (HC1.out _).mono ?_; rintro e q1 ⟨rfl, rfl⟩) | (go_at_call 10; refine (HC2.out _).mono ?_; rintro e q2 ⟨rfl, rfl⟩) | (go_at_call 12; refine (HC3.out _).mono ?_; rintro e q3 ⟨rfl, rfl⟩) | (go_at_call 14; refine (HC4.out _).mono ?_; rintro e q4 ⟨rfl, rfl⟩) | (clear K1; go_at_call 16; refine (HC5.out _ (max_kept hm HB1.out)).mono ?_; rintro e q5 ⟨rfl, hb⟩; have HBA := Lib.hid (HB1.out.trans (hb.mono HB1.out.size)); clear hb) | (clear K2; go_at_call 16; refine (HC5.out _ (max_kept hm HBA.out)).mono ?_; rintro e q6 ⟨rfl, hb⟩; have HBB := Lib.hid (HBA.out.trans (hb.mono HBA.out.size)); clear hb) | (go_at_call 16; refine (HC6.out _ (max_kept hm HBB.out)).mono ?_; rintro e q7 ⟨rfl, hb⟩; have HBC := Lib.hid (HBB.out.trans (hb.mono HBB.out.size)); clear hb) | (go_at_call 7; refine (awake04 _ (max_kept hm HBC.out)).mono ?_; rintro e q8 ⟨rfl, hb⟩; have HBW := Lib.hid (HBC.out.trans (hb.mono HBC.out.size)); clear hb))
                  all_goals first
                    | (go_ret; exact ⟨rfl, HBW.out⟩)
                    | (exfalso; exact ‹¬ (bb ++ cc).toList = S.toList› (by rw [HBS.out]))
                    | (exfalso; exact ‹¬ (dd ++ nn).toList = S.toList› (by rw [HDN.out]))
                    | (exfalso; exact ‹¬ ((⟨#[]⟩ : ByteArray) ++ S).toList = S.toList› (by rw [app_empty]))
                    | (exfalso; exact HNE.out (str_same ‹(nn.toList == S.toList) = true›))
                    | (exfalso; exact HSE.out (none_of ‹(!S.toList.isEmpty) = false›))
                    | (exfalso; exact HTE.out (none_is ‹t.toList = []›))
                    | trace_state
end Go.Proofs.YtpoekljclapbfaaDoor.G
