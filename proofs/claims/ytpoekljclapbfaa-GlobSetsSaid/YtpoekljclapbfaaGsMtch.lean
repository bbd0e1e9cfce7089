/- wainwrightref03.match: the walk. -/
import Derived.Test.YtpoekljclapbfaaGsMt
namespace Go.Proofs.Ytpoekljclapbfaa.Gs
open Go.RowKit Go.Proofs.Ytpoekljclapbfaa.PR Go.Proofs.Ytpoekljclapbfaa.G Go.Proofs.Ytpoekljclapbfaa.P0 Go.Proofs.YtpoekljclapbfaaW.PrintWords Go.Proofs.YtpoekljclapbfaaW.PrintLast

set_option maxHeartbeats 4000000 in
set_option maxRecDepth 100000 in
theorem match_calls (g cap : Nat) (ts : List Pc) (s : ByteArray) (hs : s.size < 1099511) (hn : ts.length < 1099511) (w : World) (HP : Hid (PRow w g cap ts)) :
    Calls Try.prog 19 #[.slice (some ⟨g, 0, none⟩) ts.length cap, .string s] w fun e w' => e = .returned (.bool (mat ts s.data.toList)) ∧ Below w.heap.size w w' := by
  obtain ⟨nL, hnL⟩ : ∃ nL, nL = ts.length := ⟨_, rfl⟩
  rw [← hnL]
  have HNL := Lib.hid hnL
  clear hnL
  obtain ⟨N, hN⟩ : ∃ N, N = s.size := ⟨_, rfl⟩
  have hw1 : IntKind.i64.wrap ((s.size : Int) + 1) = ((s.size + 1 : Nat) : Int) := IntWalk.i64_in _ (by omega)
  go_enter Try.func19, Try.ntmps19
  have hsW := World.size_alloc w (.cells #[.slice none 0 0, .slice none 0 0] 60)
  have HSW := Lib.hid hsW
  clear hsW
  go_wp2_with (at_make; go_must (refine wpList_mk rfl _ rfl s.size rfl hs ?_); intro w1 hg1 hb1 hlt1; rw [HSW.out] at hg1 hb1 hlt1 ⊢; have HM0 := Lib.hid (MtR.start hb1 hg1); have c0 := cell_of_block (j := 0) ((hb1.block w.heap.size (by omega)).trans (heap_alloc_last w _)); have f0 := frozen_of_block (j := 0) ((hb1.block w.heap.size (by omega)).trans (heap_alloc_last w _)); have c1 := bool_cell hg1 0 (Nat.zero_le _); have f1 := frozen_of_block (j := 0) hg1; clear hg1 hb1 hlt1)
  clear c0 f0 c1 f1
  go_loopw [6] (fun v6 wx => ∃ (i g2 : Nat), i ≤ nL ∧ v6 = .int .i64 i ∧ Hid (MtR w wx s.size g2 (fun k => tab ts s.data.toList i k))) (fun v _ => nL - (intOf v).toNat)
  case atStart =>
    refine ⟨0, w.heap.size + 1, Nat.zero_le _, rfl, Lib.hid ?_⟩
    have e : bools s.size (fun k => decide (k = 0)) = bools s.size (fun k => tab ts s.data.toList 0 k) := bools_congr (fun k hk => (tab_none ts _ k hk).symm)
    exact ⟨HM0.out.hat, by rw [← e]; exact HM0.out.hg, HM0.out.lt, HM0.out.hb⟩
  case round =>
    obtain ⟨i, g2, hi, rfl, HM⟩ := hrel
    by_cases hi2 : i < nL
    · have k1 : ((i : Int) < (nL : Int)) := by omega
      obtain ⟨x, hx⟩ : ∃ x, ts[i]? = some x := ⟨_, List.getElem?_eq_getElem (by rw [← HNL.out]; exact hi2)⟩
      have HX := Lib.hid hx
      clear hx hi2
      obtain ⟨isS, hisS⟩ : ∃ b, b = x.isStar := ⟨_, rfl⟩
      have HIS := Lib.hid hisS
      clear hisS
      obtain ⟨g3, hg3⟩ : ∃ g3, g3 = wr.heap.size := ⟨_, rfl⟩
      have HG3 := Lib.hid hg3
      clear hg3
      go_wp2_with (at_make; go_must (refine wpList_mk rfl _ rfl s.size rfl hs ?_); intro w1 hg1 hb1 hlt1; rw [← HG3.out] at hg1 hlt1 ⊢; have HI0 : Hid (MtI w w1 s.size g2 g3 (fun k => tab ts s.data.toList i k) (fun _ => false)) := Lib.hid ⟨HM.out.kept hb1, hg1, by rw [HG3.out]; exact (Array.getElem?_eq_some_iff.1 HM.out.hg).1⟩; clear hg1 hb1 hlt1)
      cases isS with
      | true =>
        go_loopw [8, 9] (fun v8 v9 wx => ∃ k : Nat, k ≤ s.size + 1 ∧ v9 = .int .i64 k ∧ v8 = .bool (anyT ts s.data.toList i k) ∧ Hid (MtI w wx s.size g2 g3 (fun k => tab ts s.data.toList i k) (fun m => if m < k then tab ts s.data.toList (i + 1) m else false))) (fun _ v _ => s.size + 1 - (intOf v).toNat)
        case atStart => exact ⟨0, Nat.zero_le _, rfl, rfl, by simpa using HI0⟩
        case round =>
          obtain ⟨k, hk, rfl, rfl, HI⟩ := hrel
          by_cases hk2 : k ≤ s.size
          · have k2 : ((k : Int) ≤ (s.size : Int)) := by omega
            have hxs : x = .star := by have := HIS.out; cases x <;> first | rfl | cases this
            have ck := (HP.out.kept HI.out.r.hb).kind i x HX.out
            rw [hxs] at ck
            obtain ⟨qa, hqa⟩ : ∃ q, q = anyT ts s.data.toList i k := ⟨_, rfl⟩
            obtain ⟨qt, hqt⟩ : ∃ q, q = tab ts s.data.toList i k := ⟨_, rfl⟩
            have hst : tab ts s.data.toList (i + 1) k = (qa || qt) := by rw [hqa, hqt]; exact tab_star ts _ i k (by rw [← hxs]; exact HX.out) hk2
            have c0 := cell_of_block (j := 0) HI.out.r.hat
            have c2 := bool_cell HI.out.r.hg k hk2
            have c3 := bool_cell HI.out.hg2 k hk2
            have f3 := frozen_of_block (j := k) HI.out.hg2
            rw [← hqa]
            simp only [← hqt] at c2
            have HST := Lib.hid hst
            have HK := Lib.hid hk2
            clear hxs hqa hqt hst hk2 hk
            cases qa with
            | true =>
              go_wp2
              refine ⟨⟨k + 1, by have := HK.out; omega, by go_num, by show _ = Value.bool (tab ts s.data.toList (i + 1) k); rw [HST.out]; rfl, Lib.hid ((HI.out.put k true).congr (fun m _ => ?_))⟩, by have := HK.out; simp [intOf]; omega⟩
              by_cases h1 : m = k
              · subst h1; simp [HST.out]
              · have : (m < k + 1) = (m < k) := by simp only [eq_iff_iff]; omega
                simp [h1, this]
            | false =>
              go_wp2
              refine ⟨⟨k + 1, by have := HK.out; omega, by go_num, by show _ = Value.bool (tab ts s.data.toList (i + 1) k); rw [HST.out]; rfl, Lib.hid ((HI.out.put k qt).congr (fun m _ => ?_))⟩, by have := HK.out; simp [intOf]; omega⟩
              by_cases h1 : m = k
              · subst h1; simp [HST.out]
              · have : (m < k + 1) = (m < k) := by simp only [eq_iff_iff]; omega
                simp [h1, this]
          · have k2 : ¬ ((k : Int) ≤ (s.size : Int)) := by omega
            have hk3 : k = s.size + 1 := by omega
            have c0 := cell_of_block (j := 0) HI.out.r.hat
            have f0 := frozen_of_block (j := 0) HI.out.r.hat
            have HN2 : Hid (MtR w (wr.setCell ⟨w.heap.size, 0, none⟩ (.slice (some ⟨g3, 0, none⟩) (s.size + 1) (s.size + 1))) s.size g3 (fun k => tab ts s.data.toList (i + 1) k)) := Lib.hid (HI.out.congr (fun m hm => by rw [hk3, if_pos (by omega)])).next
            clear hk3 hk2 hk
            go_wp2
            have hwi : wrap64 ((i : Int) + 1) = ((i + 1 : Nat) : Int) := by unfold wrap64; have := HNL.out; omega
            rw [hwi]
            exact ⟨⟨i + 1, g3, by omega, rfl, HN2⟩, by simp [intOf]; omega⟩
      | false =>
        go_loopw [8, 9] (fun v8 v9 wx => ∃ k : Nat, k ≤ s.size + 1 ∧ v9 = .int .i64 k ∧ v8 = .bool false ∧ Hid (MtI w wx s.size g2 g3 (fun k => tab ts s.data.toList i k) (fun m => if m < k then tab ts s.data.toList (i + 1) m else false))) (fun _ v _ => s.size + 1 - (intOf v).toNat)
        case atStart => exact ⟨0, Nat.zero_le _, rfl, rfl, by simpa using HI0⟩
        case round =>
          obtain ⟨k, hk, rfl, rfl, HI⟩ := hrel
          have ck := (HP.out.kept HI.out.r.hb).kind i x HX.out
          obtain ⟨kd, hkd⟩ : ∃ kd, kd = x.kindR := ⟨_, rfl⟩
          rw [← hkd] at ck
          have hk3 : (kd == 3) = false := by rw [hkd, beq_eq_false_iff_ne]; have := HIS.out; cases x <;> first | (cases this; done) | (simp [Pc.kindR])
          clear hkd
          by_cases hk2 : k ≤ s.size
          · have k2 : ((k : Int) ≤ (s.size : Int)) := by omega
            cases k with
            | zero =>
              have h00 := tab_zero ts s.data.toList i x HX.out HIS.out.symm
              have HH := Lib.hid (HI.out.congr (f3 := fun m => if m < 1 then tab ts s.data.toList (i + 1) m else false) (fun m _ => by
                by_cases h1 : m < 1
                · obtain rfl : m = 0 := by omega
                  simp [h00]
                · simp [h1]))
              clear h00
              go_wp2
              exact ⟨⟨1, by omega, rfl, rfl, HH⟩, by simp [intOf]⟩
            | succ k =>
              obtain ⟨k1, hk1⟩ : ∃ k1, k1 = k + 1 := ⟨_, rfl⟩
              have hkl : k < s.size := by omega
              have hb : s.data.toList[k]? = some (s[k]'hkl) := List.getElem?_eq_getElem hkl
              have hone := tab_one ts s.data.toList i k x _ HX.out HIS.out.symm hb
              rw [← hk1] at hone hk2 hk HI k2 ⊢
              have c0 := cell_of_block (j := 0) HI.out.r.hat
              have c2 := bool_cell HI.out.r.hg k (by omega)
              have c3 := bool_cell HI.out.hg2 k1 hk2
              have f3 := frozen_of_block (j := k1) HI.out.hg2
              have k3 : ((k1 : Int) > 0) := by omega
              have k5 : ((k : Int) < (s.size : Int) + 1) := by omega
              have k6 : ((k1 : Int) < (s.size : Int) + 1) := by omega
              have k7 : ((k : Int) < (s.size : Int)) := by omega
              have hwk : IntKind.i64.wrap ((k1 : Int) - 1) = (k : Int) := by rw [hk1]; simpa using IntWalk.i64_in _ (by omega)
              obtain ⟨qt, hqt⟩ : ∃ q, q = tab ts s.data.toList i k := ⟨_, rfl⟩
              simp only [← hqt] at c2
              have c2t : Hid (some (Value.bool (tab ts s.data.toList i k)) = some (Value.bool qt)) := Lib.hid (by rw [hqt])
              rw [← hqt] at hone
              have HONE := Lib.hid hone
              have HK := Lib.hid (show k1 ≤ s.size ∧ k1 = k + 1 from ⟨hk2, hk1⟩)
              clear hone hqt hk2 hk hk1 hb
              cases qt with
              | false =>
                go_wp2
                go_region
                go_wp2
                refine ⟨⟨k1 + 1, by have := HK.out; omega, by go_num, rfl, Lib.hid (((HI.out.kept (Below.refl _ wr).drew).put k1 false).congr (fun m _ => ?_))⟩, by have := HK.out; simp [intOf]; omega⟩
                by_cases h1 : m = k1
                · subst h1
                  have := HONE.out
                  simp at this
                  simp [this]
                · have : (m < k1 + 1) = (m < k1) := by simp only [eq_iff_iff]; omega
                  simp [h1, this]
              | true =>
                obtain ⟨R, hR⟩ : ∃ R, R = x.row := ⟨_, rfl⟩
                have hld : Hid (∀ w1, Below w.heap.size w w1 → (loadVar 45 ⟨g, i * 258, none⟩).run Try.prog w1 = .ok (.agg R) w1) := Lib.hid (fun w1 hb => by
                  rw [hR]
                  exact (HP.out.kept hb).load i x HX.out)
                have hcl : Hid (∀ w1, Below wr.heap.size wr w1 → w1.cell? ⟨w.heap.size, 0, none⟩ = some (.slice (some ⟨g2, 0, none⟩) (s.size + 1) (s.size + 1)) ∧ w1.cell? ⟨g2, k, none⟩ = some (.bool true) ∧ w1.cell? ⟨g3, k1, none⟩ = wr.cell? ⟨g3, k1, none⟩ ∧ w1.frozen? ⟨g3, k1, none⟩ = false) := Lib.hid (fun w1 hb =>
                  have z0 := (Array.getElem?_eq_some_iff.1 HI.out.r.hat).1
                  have z1 := (Array.getElem?_eq_some_iff.1 HI.out.r.hg).1
                  have z2 := (Array.getElem?_eq_some_iff.1 HI.out.hg2).1
                  ⟨(hb.cell (p := ⟨w.heap.size, 0, none⟩) z0).trans c0, (hb.cell (p := ⟨g2, k, none⟩) z1).trans c2, hb.cell (p := ⟨g3, k1, none⟩) z2, (hb.frozen (p := ⟨g3, k1, none⟩) z2).trans f3⟩)
                have HF := Lib.hid (fun w1 => fits_row x HIS.out.symm (s[k]'hkl) w1)
                rw [← hR] at HF
                have HR := Lib.hid hR
                have d0 := (hcl.out wr.drew (Below.refl _ wr).drew).1
                have d1 := (hcl.out wr.drew (Below.refl _ wr).drew).2.1
                have d2 := hld.out wr.drew HI.out.r.hb.drew
                have hok : tab ts s.data.toList (i + 1) k1 = x.ok (s[k]'hkl) := by have := HONE.out; simpa using this
                obtain ⟨ob, hob⟩ : ∃ ob, ob = x.ok (s[k]'hkl) := ⟨_, rfl⟩
                rw [← hob] at hok HF
                have HOK := Lib.hid hok
                clear hR hok hob
                go_wp2
                refine wp_region_held_drew (S := fun w' => w'.cell? ⟨w.heap.size, 0, none⟩ = some (.slice (some ⟨g2, 0, none⟩) (s.size + 1) (s.size + 1)) ∧ w'.cell? ⟨g2, k, none⟩ = some (.bool true) ∧ (loadVar 45 ⟨g, i * 258, none⟩).run Try.prog w' = .ok (.agg R) w') (by kernel_rfl) ⟨d0, d1, d2⟩ (fun hHeld => ?_)
                refine wpAnyH_take (i := 0) (v := (.slice (some ⟨g3, 0, none⟩) (s.size + 1) (s.size + 1))) (by simp only [List.getElem?_toArray, List.getElem?_cons_zero]; rfl) (by kernel_rfl) (by kernel_rfl) (by kernel_rfl) (by exact fun _ _ _ h => h) (Or.inl ⟨by rfl, ?_⟩) (by assumption) ?_
                · intro w1 hSw; (try dsimp only at hSw); go_simp
                try simp only [Act.put, List.setIfInBounds_toArray, List.set_cons_zero, List.set_cons_succ]
                refine wpAnyH_take (i := 1) (v := (.int .i64 k1)) (by simp only [List.getElem?_toArray, List.getElem?_cons_succ, List.getElem?_cons_zero]; rfl) (by kernel_rfl) (by kernel_rfl) (by kernel_rfl) (by exact fun _ _ _ h => h) (Or.inl ⟨by rfl, ?_⟩) (by assumption) ?_
                · intro w1 hSw; (try dsimp only at hSw); go_simp
                try simp only [Act.put, List.setIfInBounds_toArray, List.set_cons_zero, List.set_cons_succ]
                refine wpAnyH_take (i := 2) (v := (.pointer (some ⟨w.heap.size, 0, none⟩))) (by simp only [List.getElem?_toArray, List.getElem?_cons_succ, List.getElem?_cons_zero]; rfl) (by kernel_rfl) (by kernel_rfl) (by kernel_rfl) (by exact fun _ _ _ h => h) (Or.inl ⟨by rfl, ?_⟩) (by assumption) ?_
                · intro w1 hSw; (try dsimp only at hSw); go_simp
                try simp only [Act.put, List.setIfInBounds_toArray, List.set_cons_zero, List.set_cons_succ]
                refine wpAnyH_take (i := 3) (v := (.slice (some ⟨g2, 0, none⟩) (s.size + 1) (s.size + 1))) (by simp only [List.getElem?_toArray, List.getElem?_cons_succ, List.getElem?_cons_zero]; rfl) (by kernel_rfl) (by kernel_rfl) (by kernel_rfl) (by exact fun _ _ _ h => h) (Or.inl ⟨by rfl, ?_⟩) (by assumption) ?_
                · intro w1 hSw; (try dsimp only at hSw); go_simp
                try simp only [Act.put, List.setIfInBounds_toArray, List.set_cons_zero, List.set_cons_succ]
                refine wpAnyH_take (i := 4) (v := (.int .i64 k1)) (by simp only [List.getElem?_toArray, List.getElem?_cons_succ, List.getElem?_cons_zero]; rfl) (by kernel_rfl) (by kernel_rfl) (by kernel_rfl) (by exact fun _ _ _ h => h) (Or.inl ⟨by rfl, ?_⟩) (by assumption) ?_
                · intro w1 hSw; (try dsimp only at hSw); go_simp
                try simp only [Act.put, List.setIfInBounds_toArray, List.set_cons_zero, List.set_cons_succ]
                refine wpAnyH_take (i := 5) (v := (.int .i64 k)) (by simp only [List.getElem?_toArray, List.getElem?_cons_succ, List.getElem?_cons_zero]; rfl) (by kernel_rfl) (by kernel_rfl) (by kernel_rfl) (by exact fun _ _ _ h => h) (Or.inl ⟨by rfl, ?_⟩) (by assumption) ?_
                · intro w1 hSw; (try dsimp only at hSw); go_simp
                try simp only [Act.put, List.setIfInBounds_toArray, List.set_cons_zero, List.set_cons_succ]
                refine wpAnyH_take (i := 6) (v := (.pointer (some ⟨g2, k, none⟩))) (by simp only [List.getElem?_toArray, List.getElem?_cons_succ, List.getElem?_cons_zero]; rfl) (by kernel_rfl) (by kernel_rfl) (by kernel_rfl) (by exact fun _ _ _ h => h) (Or.inl ⟨by rfl, ?_⟩) (by assumption) ?_
                · intro w1 hSw; (try dsimp only at hSw); go_simp
                try simp only [Act.put, List.setIfInBounds_toArray, List.set_cons_zero, List.set_cons_succ]
                refine wpAnyH_take (i := 7) (v := (.bool true)) (by simp only [List.getElem?_toArray, List.getElem?_cons_succ, List.getElem?_cons_zero]; rfl) (by kernel_rfl) (by kernel_rfl) (by kernel_rfl) (by exact fun _ _ _ h => h) (Or.inl ⟨by rfl, ?_⟩) (by assumption) ?_
                · intro w1 hSw; (try dsimp only at hSw); go_simp
                try simp only [Act.put, List.setIfInBounds_toArray, List.set_cons_zero, List.set_cons_succ]
                refine wpAnyH_take (i := 8) (v := (.bool true)) (by simp only [List.getElem?_toArray, List.getElem?_cons_succ, List.getElem?_cons_zero]; rfl) (by kernel_rfl) (by kernel_rfl) (by kernel_rfl) (by exact fun _ _ _ h => h) (Or.inl ⟨by rfl, ?_⟩) (by assumption) ?_
                · intro w1 hSw; (try dsimp only at hSw); go_simp
                try simp only [Act.put, List.setIfInBounds_toArray, List.set_cons_zero, List.set_cons_succ]
                refine wpAnyH_take (i := 9) (v := (.slice (some ⟨g, 0, none⟩) nL cap)) (by simp only [List.getElem?_toArray, List.getElem?_cons_succ, List.getElem?_cons_zero]; rfl) (by kernel_rfl) (by kernel_rfl) (by kernel_rfl) (by exact fun _ _ _ h => h) (Or.inl ⟨by rfl, ?_⟩) (by assumption) ?_
                · intro w1 hSw; (try dsimp only at hSw); go_simp
                try simp only [Act.put, List.setIfInBounds_toArray, List.set_cons_zero, List.set_cons_succ]
                refine wpAnyH_take (i := 10) (v := (.int .i64 i)) (by simp only [List.getElem?_toArray, List.getElem?_cons_succ, List.getElem?_cons_zero]; rfl) (by kernel_rfl) (by kernel_rfl) (by kernel_rfl) (by exact fun _ _ _ h => h) (Or.inl ⟨by rfl, ?_⟩) (by assumption) ?_
                · intro w1 hSw; (try dsimp only at hSw); go_simp
                try simp only [Act.put, List.setIfInBounds_toArray, List.set_cons_zero, List.set_cons_succ]
                refine wpAnyH_take (i := 11) (v := (.pointer (some ⟨g, i * 258, none⟩))) (by simp only [List.getElem?_toArray, List.getElem?_cons_succ, List.getElem?_cons_zero]; rfl) (by kernel_rfl) (by kernel_rfl) (by kernel_rfl) (by exact fun _ _ _ h => h) (Or.inl ⟨by rfl, ?_⟩) (by assumption) ?_
                · intro w1 hSw; (try dsimp only at hSw); go_simp
                try simp only [Act.put, List.setIfInBounds_toArray, List.set_cons_zero, List.set_cons_succ]
                refine wpAnyH_take (i := 12) (v := (.agg R)) (by simp only [List.getElem?_toArray, List.getElem?_cons_succ, List.getElem?_cons_zero]; rfl) (by kernel_rfl) (by kernel_rfl) (by kernel_rfl) (by exact fun _ _ _ h => h) (Or.inl ⟨by rfl, ?_⟩) (by assumption) ?_
                · intro w1 hSw; exact exec_load rfl rfl hSw.2.2
                try simp only [Act.put, List.setIfInBounds_toArray, List.set_cons_zero, List.set_cons_succ]
                refine wpAnyH_take (i := 13) (v := (.string s)) (by simp only [List.getElem?_toArray, List.getElem?_cons_succ, List.getElem?_cons_zero]; rfl) (by kernel_rfl) (by kernel_rfl) (by kernel_rfl) (by exact fun _ _ _ h => h) (Or.inl ⟨by rfl, ?_⟩) (by assumption) ?_
                · intro w1 hSw; (try dsimp only at hSw); go_simp
                try simp only [Act.put, List.setIfInBounds_toArray, List.set_cons_zero, List.set_cons_succ]
                refine wpAnyH_take (i := 14) (v := (.int .i64 k1)) (by simp only [List.getElem?_toArray, List.getElem?_cons_succ, List.getElem?_cons_zero]; rfl) (by kernel_rfl) (by kernel_rfl) (by kernel_rfl) (by exact fun _ _ _ h => h) (Or.inl ⟨by rfl, ?_⟩) (by assumption) ?_
                · intro w1 hSw; (try dsimp only at hSw); go_simp
                try simp only [Act.put, List.setIfInBounds_toArray, List.set_cons_zero, List.set_cons_succ]
                refine wpAnyH_take (i := 15) (v := (.int .i64 k)) (by simp only [List.getElem?_toArray, List.getElem?_cons_succ, List.getElem?_cons_zero]; rfl) (by kernel_rfl) (by kernel_rfl) (by kernel_rfl) (by exact fun _ _ _ h => h) (Or.inl ⟨by rfl, ?_⟩) (by assumption) ?_
                · intro w1 hSw; (try dsimp only at hSw); go_simp
                try simp only [Act.put, List.setIfInBounds_toArray, List.set_cons_zero, List.set_cons_succ]
                refine wpAnyH_take (i := 16) (v := (.int .u8 ((s[k]'hkl).toNat : Int))) (by simp only [List.getElem?_toArray, List.getElem?_cons_succ, List.getElem?_cons_zero]; rfl) (by kernel_rfl) (by kernel_rfl) (by kernel_rfl) (by exact fun _ _ _ h => h) (Or.inl ⟨by rfl, ?_⟩) (by assumption) ?_
                · intro w1 hSw; (try dsimp only at hSw); go_simp
                try simp only [Act.put, List.setIfInBounds_toArray, List.set_cons_zero, List.set_cons_succ]
                refine wpAnyH_ready (rs := [17]) (by kernel_rfl) (by simp) ?_
                refine AllReadyH.cons (by simp only [List.getElem?_toArray, List.getElem?_cons_succ, List.getElem?_cons_zero]; rfl) (fun K hK => ?_) AllReadyH.nil
                go_simp
                refine (HF.out _).mono ?_
                rintro e w2 ⟨rfl, hb2⟩
                have HB2 : Hid (Below wr.heap.size wr w2) := Lib.hid ((Below.refl _ wr).drew.trans hb2)
                have e0 := (hcl.out w2 HB2.out).1
                have e1 := (hcl.out w2 HB2.out).2.1
                have e2 := hld.out w2 (HI.out.r.hb.trans (HB2.out.mono HI.out.r.hb.size))
                have e3 := (hcl.out w2 HB2.out).2.2.1.trans c3
                have e4 := (hcl.out w2 HB2.out).2.2.2
                clear hb2 hHeld d0 d1 d2
                refine hK.out _ _ ⟨e0, e1, e2⟩ (fun hHeld => ?_)
                clear hK K
                try simp only [Act.put, List.setIfInBounds_toArray, List.set_cons_zero, List.set_cons_succ]
                refine wpAnyH_take (i := 18) (v := (.bool ob)) (by simp only [List.getElem?_toArray, List.getElem?_cons_succ, List.getElem?_cons_zero]; rfl) (by kernel_rfl) (by kernel_rfl) (by kernel_rfl) (by exact fun _ _ _ h => h) (Or.inl ⟨by rfl, ?_⟩) (by assumption) ?_
                · intro w1 hSw; (try dsimp only at hSw); go_simp
                try simp only [Act.put, List.setIfInBounds_toArray, List.set_cons_zero, List.set_cons_succ]
                refine wpAnyH_take (i := 19) (v := (.pointer (some ⟨g3, k1, none⟩))) (by simp only [List.getElem?_toArray, List.getElem?_cons_succ, List.getElem?_cons_zero]; rfl) (by kernel_rfl) (by kernel_rfl) (by kernel_rfl) (by exact fun _ _ _ h => h) (Or.inl ⟨by rfl, ?_⟩) (by assumption) ?_
                · intro w1 hSw; (try dsimp only at hSw); go_simp
                try simp only [Act.put, List.setIfInBounds_toArray, List.set_cons_zero, List.set_cons_succ]
                refine wpAnyH_ready (rs := [20]) (by kernel_rfl) (by simp) ?_
                refine AllReadyH.cons (by simp only [List.getElem?_toArray, List.getElem?_cons_succ, List.getElem?_cons_zero]; rfl) (fun K hK => ?_) AllReadyH.nil
                go_simp
                have HZ : Hid (MtI w (w2.setCell ⟨g3, k1, none⟩ (.bool ob)) s.size g2 g3 (fun k => tab ts s.data.toList i k) (fun n => if n = k1 then ob else (fun m => if m < k1 then tab ts s.data.toList (i + 1) m else false) n)) := Lib.hid ((HI.out.kept HB2.out).put k1 ob)
                refine hK.out _ _ ⟨cell_of_block (j := 0) HZ.out.r.hat, (bool_cell HZ.out.r.hg k (by omega)).trans c2t.out, hld.out _ HZ.out.r.hb⟩ (fun hHeld => ?_)
                refine wpAnyH_done (by kernel_rfl) ?_ _
                go_wp2
                refine ⟨⟨k1 + 1, by have := HK.out; omega, by go_num, rfl, Lib.hid (HZ.out.congr (fun m _ => ?_))⟩, by have := HK.out; simp [intOf]; omega⟩
                by_cases h1 : m = k1
                · subst h1; simp [HOK.out]
                · have : (m < k1 + 1) = (m < k1) := by simp only [eq_iff_iff]; omega
                  simp [h1, this]
          · have k2 : ¬ ((k : Int) ≤ (s.size : Int)) := by omega
            have hk3 : k = s.size + 1 := by omega
            have c0 := cell_of_block (j := 0) HI.out.r.hat
            have f0 := frozen_of_block (j := 0) HI.out.r.hat
            have HN2 : Hid (MtR w (wr.setCell ⟨w.heap.size, 0, none⟩ (.slice (some ⟨g3, 0, none⟩) (s.size + 1) (s.size + 1))) s.size g3 (fun k => tab ts s.data.toList (i + 1) k)) := Lib.hid (HI.out.congr (fun m hm => by rw [hk3, if_pos (by omega)])).next
            clear hk3 hk2 hk
            go_wp2
            have hwi : wrap64 ((i : Int) + 1) = ((i + 1 : Nat) : Int) := by unfold wrap64; have := HNL.out; omega
            rw [hwi]
            exact ⟨⟨i + 1, g3, by omega, rfl, HN2⟩, by simp [intOf]; omega⟩
    · obtain rfl : i = nL := by omega
      have c0 := cell_of_block (j := 0) HM.out.hat
      have c1 := bool_cell HM.out.hg s.size (Nat.le_refl _)
      have hfin : tab ts s.data.toList i s.size = mat ts s.data.toList := by
        unfold tab
        rw [HNL.out, List.take_length, show s.size = s.data.toList.length from rfl, List.take_length]
      simp only [hfin] at c1
      clear hfin hi2
      go_wp2
      go_ret
      exact ⟨rfl, HM.out.hb⟩
end Go.Proofs.Ytpoekljclapbfaa.Gs
