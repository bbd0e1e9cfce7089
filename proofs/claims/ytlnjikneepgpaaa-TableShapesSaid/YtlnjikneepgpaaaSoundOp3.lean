/- sound.op: the walks of its code for functions' instructions (Do, Lazy), and for what is no instruction. -/
import Derived.Test.YtlnjikneepgpaaaSoundOp
import Derived.LoopTactic
namespace Go.Proofs.Ytlnjikneepgpaaa.G
open Go.RowKit Go.Proofs.YtlnjikneepgpaaaW.PrintWords Go.Proofs.Ytlnjikneepgpaaa.P0
set_option linter.unusedSimpArgs false

/-- May a block be named? -/
def bBad (a1 a2 : Int) (b : Int) : Bool := decide (b ≤ a1 ∨ a2 ≤ b)
theorem elem_at {w : World} {A : Option Addr} {L : List Int} (h : Kd.C (Kd.int .i64) w A L.length L) (k : Nat) (hk : k < L.length) :
    ∃ b off v, A = some ⟨b, off, none⟩ ∧ b < w.heap.size ∧ w.cell? ⟨b, off + k, none⟩ = some (.int .i64 v) ∧ rd L k = v ∧ L[k] = v := by
  obtain ⟨⟨b, off, sp⟩, e, hc⟩ := Kd.at_int h 0 (by omega) (by omega)
  obtain ⟨x, e', hc'⟩ := Kd.at_int h (k : Int) (by omega) (by omega)
  have hx : x = ⟨b, off, sp⟩ := Option.some.inj (e'.symm.trans e)
  subst hx
  have h0 : (⟨b, off, sp⟩ : Addr).add (0 : Int).toNat = ⟨b, off, sp⟩ := by unfold Addr.add; rfl
  rw [h0] at hc
  have hsp : sp = none := World.cell?_spot hc
  subst hsp
  have h1 : (⟨b, off, none⟩ : Addr).add ((k : Int)).toNat = ⟨b, off + k, none⟩ := by
    rw [Int.toNat_natCast]
    unfold Addr.add
    split
    · rename_i h0; rw [h0]; rfl
    · rfl
  rw [h1] at hc'
  refine ⟨b, off, rd L k, e, World.block_lt_of_cell? w _ hc', hc', rfl, ?_⟩
  simp [rd, List.getD, hk]

set_option maxHeartbeats 4000000 in
set_option maxRecDepth 100000 in
theorem op5_ok (f1 : Int) (f2 : ByteArray) (r : Bool) (A : Option Addr) (c : Nat) (a1 a2 : Int) (w : World) (hpos : 0 ≤ f1) (HF : Hid (sound_fits.f f2 false f1 = some r)) :
    Calls Try.prog 90 #[.agg #[.int .i64 5, .int .i64 f1, .string f2, .slice A 0 c], .int .i64 a1, .int .i64 a2] w fun e w' => e = .returned (.tuple #[.int .i64 f1, .bool r]) ∧ Below w.heap.size w w' := by
  have hix := kinds_ix5
  obtain ⟨W, hW⟩ : ∃ W, W = w.alloc (.cells #[.int .i64 5, .int .i64 f1, .string f2, .slice A 0 c] 44) := ⟨_, rfl⟩
  have hblk : W.heap[w.heap.size]? = some (.cells #[.int .i64 5, .int .i64 f1, .string f2, .slice A 0 c] 44) := by rw [hW]; exact heap_alloc_new w _
  have hlt : w.heap.size < W.heap.size := by rw [hW]; simp
  have hB0 : Below w.heap.size w W := by rw [hW]; exact (Below.refl _ _).alloc (Nat.le_refl _) _
  have HBLK := Lib.hid hblk
  have HLT := Lib.hid hlt
  have HB0 := Lib.hid hB0
  have c0 : W.cell? ⟨w.heap.size, 0, none⟩ = some (.int .i64 5) := by rw [cell_of_block hblk]; rfl
  have c1 : W.cell? ⟨w.heap.size, 1, none⟩ = some (.int .i64 f1) := by rw [cell_of_block hblk]; rfl
  have c2 : W.cell? ⟨w.heap.size, 2, none⟩ = some (.string f2) := by rw [cell_of_block hblk]; rfl
  have c3 : W.cell? ⟨w.heap.size, 3, none⟩ = some (.slice A 0 c) := by rw [cell_of_block hblk]; rfl
  have HNE : W.heap.size ≠ w.heap.size := by omega
  clear hblk hlt hB0
  go_enter Try.func90, Try.ntmps90
  go_wp2_with fail
  rw [← hW]
  clear hW
  go_region_held3 (fun w' => w'.cell? ⟨w.heap.size, 0, none⟩ = some (.int .i64 5)) (first | (with_reducible exact d0) | (rw [World.cell?_setCell_far _ _ _ _ HNE, World.cell?_setCell_far _ _ _ _ HNE, World.cell?_setCell_far _ _ _ _ HNE, World.cell?_setCell_far _ _ _ _ HNE]; with_reducible exact d0) | go_keep) (first
    | (go_at_call 106; refine (sound_kinds _).mono ?_; rintro e w2 ⟨rfl, hb2⟩; have hk := (hb2.block W.heap.size (by simp)).trans (heap_alloc_new W _); have HB2 := Lib.hid ((show Below W.heap.size W _ from Below.drew ((Below.refl _ _).alloc (Nat.le_refl _) _)).trans (hb2.mono (by simp))); have HZ := Lib.hid (show W.heap.size < w2.heap.size from Nat.lt_of_lt_of_le (by simp) hb2.size); have e0 := cell_of_block (j := 0) hk; have e1 := cell_of_block (j := 1) hk; have e2 := cell_of_block (j := 2) hk; have e3 := cell_of_block (j := 3) hk; simp only [List.getElem?_toArray, List.getElem?_cons_zero, List.getElem?_cons_succ] at e0 e1 e2 e3; have g0 := frozen_of_block (j := 0) hk; have g1 := frozen_of_block (j := 1) hk; have g2 := frozen_of_block (j := 2) hk; have g3 := frozen_of_block (j := 3) hk; clear hb2 hk; have HBLK2 := Lib.hid ((HB2.out.block _ HLT.out).trans HBLK.out); have HLT2 := Lib.hid (Nat.lt_of_lt_of_le HLT.out HB2.out.size); have d0 : w2.cell? ⟨w.heap.size, 0, none⟩ = some (.int .i64 5) := (cell_of_block HBLK2.out).trans rfl; have d1 : w2.cell? ⟨w.heap.size, 1, none⟩ = some (.int .i64 f1) := (cell_of_block HBLK2.out).trans rfl; have d2 : w2.cell? ⟨w.heap.size, 2, none⟩ = some (.string f2) := (cell_of_block HBLK2.out).trans rfl; have d3 : w2.cell? ⟨w.heap.size, 3, none⟩ = some (.slice A 0 c) := (cell_of_block HBLK2.out).trans rfl)
    | (go_at_call 106; refine (sound_kinds _).mono ?_; rintro e w2 ⟨rfl, hb2⟩; have HB2 := Lib.hid ((show Below W.heap.size W _ from Below.drew (Below.refl _ _)).trans hb2); clear hb2; have HBLK2 := Lib.hid ((HB2.out.block _ HLT.out).trans HBLK.out); have HLT2 := Lib.hid (Nat.lt_of_lt_of_le HLT.out HB2.out.size); have d0 : w2.cell? ⟨w.heap.size, 0, none⟩ = some (.int .i64 5) := (cell_of_block HBLK2.out).trans rfl; have d1 : w2.cell? ⟨w.heap.size, 1, none⟩ = some (.int .i64 f1) := (cell_of_block HBLK2.out).trans rfl; have d2 : w2.cell? ⟨w.heap.size, 2, none⟩ = some (.string f2) := (cell_of_block HBLK2.out).trans rfl; have d3 : w2.cell? ⟨w.heap.size, 3, none⟩ = some (.slice A 0 c) := (cell_of_block HBLK2.out).trans rfl))
  rotate_left 2
  rotate_left 1
  iterate 2 (
    focus (obtain ⟨W3, hW3⟩ : ∃ W3, W3 = (w2.alloc (.cells #[.int .i64 (-1), .bool true, .bool true, .bool false] 139)) := ⟨_, rfl⟩; rw [← hW3]; have k0 : W3.cell? ⟨w2.heap.size, 0, none⟩ = some (.int .i64 (-1)) := (by rw [hW3, cell_of_block (heap_alloc_new w2 _)] <;> rfl); have k1 : W3.cell? ⟨w2.heap.size, 1, none⟩ = some (.bool true) := (by rw [hW3, cell_of_block (heap_alloc_new w2 _)] <;> rfl); have k2 : W3.cell? ⟨w2.heap.size, 2, none⟩ = some (.bool true) := (by rw [hW3, cell_of_block (heap_alloc_new w2 _)] <;> rfl); have k3 : W3.cell? ⟨w2.heap.size, 3, none⟩ = some (.bool false) := (by rw [hW3, cell_of_block (heap_alloc_new w2 _)] <;> rfl); have b0 : W3.cell? ⟨w.heap.size, 0, none⟩ = some (.int .i64 5) := (by rw [hW3, cell_of_block ((Below.heap_alloc _ _ _ HLT2.out).trans HBLK2.out)] <;> rfl); have b1 : W3.cell? ⟨w.heap.size, 1, none⟩ = some (.int .i64 f1) := (by rw [hW3, cell_of_block ((Below.heap_alloc _ _ _ HLT2.out).trans HBLK2.out)] <;> rfl); have b2 : W3.cell? ⟨w.heap.size, 2, none⟩ = some (.string f2) := (by rw [hW3, cell_of_block ((Below.heap_alloc _ _ _ HLT2.out).trans HBLK2.out)] <;> rfl); have b3 : W3.cell? ⟨w.heap.size, 3, none⟩ = some (.slice A 0 c) := (by rw [hW3, cell_of_block ((Below.heap_alloc _ _ _ HLT2.out).trans HBLK2.out)] <;> rfl); have HB3 := Lib.hid (show Below w.heap.size w W3 from by rw [hW3]; exact (HB0.out.trans (HB2.out.mono HB0.out.size)).alloc (Nat.le_of_lt HLT2.out) _); have HLT3 := Lib.hid (show w.heap.size < W3.heap.size from by rw [hW3]; have := HLT2.out; simp <;> omega); have HBLK3 := Lib.hid (show W3.heap[w.heap.size]? = some (.cells #[.int .i64 5, .int .i64 f1, .string f2, .slice A 0 c] 44) from by rw [hW3]; exact (Below.heap_alloc _ _ _ HLT2.out).trans HBLK2.out); clear hW3 d0 d1 d2 d3 c0 c1 c2 c3; generalize w2.heap.size = kb at k0 k1 k2 k3 ⊢)
    rotate_left 1)
  focus (obtain ⟨W3, hW3⟩ : ∃ W3, W3 = ((((w2.setCell ⟨W.heap.size, 0, none⟩ (.int .i64 (-1))).setCell ⟨W.heap.size, 1, none⟩ (.bool true)).setCell ⟨W.heap.size, 2, none⟩ (.bool true)).setCell ⟨W.heap.size, 3, none⟩ (.bool false)) := ⟨_, rfl⟩; rw [← hW3]; have k0 : W3.cell? ⟨W.heap.size, 0, none⟩ = some (.int .i64 (-1)) := (by rw [hW3] <;> simp [go_sem, e0, e1, e2, e3]); have k1 : W3.cell? ⟨W.heap.size, 1, none⟩ = some (.bool true) := (by rw [hW3] <;> simp [go_sem, e0, e1, e2, e3]); have k2 : W3.cell? ⟨W.heap.size, 2, none⟩ = some (.bool true) := (by rw [hW3] <;> simp [go_sem, e0, e1, e2, e3]); have k3 : W3.cell? ⟨W.heap.size, 3, none⟩ = some (.bool false) := (by rw [hW3] <;> simp [go_sem, e0, e1, e2, e3]); have b0 : W3.cell? ⟨w.heap.size, 0, none⟩ = some (.int .i64 5) := (by rw [hW3, World.cell?_setCell_far _ _ _ _ HNE, World.cell?_setCell_far _ _ _ _ HNE, World.cell?_setCell_far _ _ _ _ HNE, World.cell?_setCell_far _ _ _ _ HNE] <;> exact d0); have b1 : W3.cell? ⟨w.heap.size, 1, none⟩ = some (.int .i64 f1) := (by rw [hW3, World.cell?_setCell_far _ _ _ _ HNE, World.cell?_setCell_far _ _ _ _ HNE, World.cell?_setCell_far _ _ _ _ HNE, World.cell?_setCell_far _ _ _ _ HNE] <;> exact d1); have b2 : W3.cell? ⟨w.heap.size, 2, none⟩ = some (.string f2) := (by rw [hW3, World.cell?_setCell_far _ _ _ _ HNE, World.cell?_setCell_far _ _ _ _ HNE, World.cell?_setCell_far _ _ _ _ HNE, World.cell?_setCell_far _ _ _ _ HNE] <;> exact d2); have b3 : W3.cell? ⟨w.heap.size, 3, none⟩ = some (.slice A 0 c) := (by rw [hW3, World.cell?_setCell_far _ _ _ _ HNE, World.cell?_setCell_far _ _ _ _ HNE, World.cell?_setCell_far _ _ _ _ HNE, World.cell?_setCell_far _ _ _ _ HNE] <;> exact d3); have HB3 := Lib.hid (show Below w.heap.size w W3 from by rw [hW3]; refine Below.setCell (Below.setCell (Below.setCell (Below.setCell (HB0.out.trans (HB2.out.mono HB0.out.size)) ?_ _) ?_ _) ?_ _) ?_ _ <;> exact Nat.le_of_lt HLT.out); have HLT3 := Lib.hid (show w.heap.size < W3.heap.size from by rw [hW3]; have := HLT2.out; simp <;> omega); have HBLK3 := Lib.hid (show W3.heap[w.heap.size]? = some (.cells #[.int .i64 5, .int .i64 f1, .string f2, .slice A 0 c] 44) from by rw [hW3]; exact (((Below.heap_setCell _ _ _ _ HNE.symm).trans (Below.heap_setCell _ _ _ _ HNE.symm)).trans ((Below.heap_setCell _ _ _ _ HNE.symm).trans (Below.heap_setCell _ _ _ _ HNE.symm))).trans HBLK2.out); clear hW3 d0 d1 d2 d3 c0 c1 c2 c3 e0 e1 e2 e3 g0 g1 g2 g3; obtain ⟨kb, hkb⟩ : ∃ kb, kb = W.heap.size := ⟨_, rfl⟩; rw [← hkb] at k0 k1 k2 k3 ⊢; clear hkb)
  all_goals
    go_wp2_with fail
    go_region_held3 (fun w' => w'.cell? ⟨w.heap.size, 1, none⟩ = some (.int .i64 f1) ∧ w'.cell? ⟨w.heap.size, 2, none⟩ = some (.string f2)) (first | (with_reducible exact ⟨m1, m2⟩) | go_keep) (first
      | (go_at_call 107; refine (sound_fits.calls f2 false f1 r _ HF.out).mono ?_; rintro e w4 ⟨rfl, hb4⟩; have HB4 := Lib.hid ((show Below W3.heap.size W3 _ from Below.drew (Below.refl _ _)).trans hb4); clear hb4; have HK4 := Lib.hid ((HB4.out.block _ HLT3.out).trans HBLK3.out); have m1 : w4.cell? ⟨w.heap.size, 1, none⟩ = some (.int .i64 f1) := (cell_of_block HK4.out).trans rfl; have m2 : w4.cell? ⟨w.heap.size, 2, none⟩ = some (.string f2) := (cell_of_block HK4.out).trans rfl))
    all_goals
      go_wp2_with fail
      go_ret2
      exact ⟨rfl, HB3.out.trans (HB4.out.mono (Nat.le_of_lt HLT3.out))⟩

set_option maxHeartbeats 4000000 in
set_option maxRecDepth 100000 in
theorem op6_ok (f2 : ByteArray) (L : List Int) (r : Bool) (A : Option Addr) (c : Nat) (a1 a2 : Int) (w : World) (HR : Hid (Kd.C (Kd.int .i64) w A L.length L)) (hlz : L.length ≤ 9223372036854775807) (HF : Hid (if L.any (bBad a1 a2) = true then r = false else sound_fits.f f2 true L.length = some r)) :
    Calls Try.prog 90 #[.agg #[.int .i64 6, .int .i64 0, .string f2, .slice A L.length c], .int .i64 a1, .int .i64 a2] w fun e w' => e = .returned (.tuple #[.int .i64 0, .bool r]) ∧ Below w.heap.size w w' := by
  have hix := kinds_ix6
  obtain ⟨W, hW⟩ : ∃ W, W = w.alloc (.cells #[.int .i64 6, .int .i64 0, .string f2, .slice A L.length c] 44) := ⟨_, rfl⟩
  have hblk : W.heap[w.heap.size]? = some (.cells #[.int .i64 6, .int .i64 0, .string f2, .slice A L.length c] 44) := by rw [hW]; exact heap_alloc_new w _
  have hlt : w.heap.size < W.heap.size := by rw [hW]; simp
  have hB0 : Below w.heap.size w W := by rw [hW]; exact (Below.refl _ _).alloc (Nat.le_refl _) _
  have HBLK := Lib.hid hblk
  have HLT := Lib.hid hlt
  have HB0 := Lib.hid hB0
  have c0 : W.cell? ⟨w.heap.size, 0, none⟩ = some (.int .i64 6) := by rw [cell_of_block hblk]; rfl
  have c1 : W.cell? ⟨w.heap.size, 1, none⟩ = some (.int .i64 0) := by rw [cell_of_block hblk]; rfl
  have c2 : W.cell? ⟨w.heap.size, 2, none⟩ = some (.string f2) := by rw [cell_of_block hblk]; rfl
  have c3 : W.cell? ⟨w.heap.size, 3, none⟩ = some (.slice A L.length c) := by rw [cell_of_block hblk]; rfl
  have HNE : W.heap.size ≠ w.heap.size := by omega
  clear hblk hlt hB0
  go_enter Try.func90, Try.ntmps90
  go_wp2_with fail
  rw [← hW]
  clear hW
  go_region_held3 (fun w' => w'.cell? ⟨w.heap.size, 0, none⟩ = some (.int .i64 6)) (first | (with_reducible exact d0) | (rw [World.cell?_setCell_far _ _ _ _ HNE, World.cell?_setCell_far _ _ _ _ HNE, World.cell?_setCell_far _ _ _ _ HNE, World.cell?_setCell_far _ _ _ _ HNE]; with_reducible exact d0) | go_keep) (first
    | (go_at_call 106; refine (sound_kinds _).mono ?_; rintro e w2 ⟨rfl, hb2⟩; have hk := (hb2.block W.heap.size (by simp)).trans (heap_alloc_new W _); have HB2 := Lib.hid ((show Below W.heap.size W _ from Below.drew ((Below.refl _ _).alloc (Nat.le_refl _) _)).trans (hb2.mono (by simp))); have HZ := Lib.hid (show W.heap.size < w2.heap.size from Nat.lt_of_lt_of_le (by simp) hb2.size); have e0 := cell_of_block (j := 0) hk; have e1 := cell_of_block (j := 1) hk; have e2 := cell_of_block (j := 2) hk; have e3 := cell_of_block (j := 3) hk; simp only [List.getElem?_toArray, List.getElem?_cons_zero, List.getElem?_cons_succ] at e0 e1 e2 e3; have g0 := frozen_of_block (j := 0) hk; have g1 := frozen_of_block (j := 1) hk; have g2 := frozen_of_block (j := 2) hk; have g3 := frozen_of_block (j := 3) hk; clear hb2 hk; have HBLK2 := Lib.hid ((HB2.out.block _ HLT.out).trans HBLK.out); have HLT2 := Lib.hid (Nat.lt_of_lt_of_le HLT.out HB2.out.size); have d0 : w2.cell? ⟨w.heap.size, 0, none⟩ = some (.int .i64 6) := (cell_of_block HBLK2.out).trans rfl; have d1 : w2.cell? ⟨w.heap.size, 1, none⟩ = some (.int .i64 0) := (cell_of_block HBLK2.out).trans rfl; have d2 : w2.cell? ⟨w.heap.size, 2, none⟩ = some (.string f2) := (cell_of_block HBLK2.out).trans rfl; have d3 : w2.cell? ⟨w.heap.size, 3, none⟩ = some (.slice A L.length c) := (cell_of_block HBLK2.out).trans rfl)
    | (go_at_call 106; refine (sound_kinds _).mono ?_; rintro e w2 ⟨rfl, hb2⟩; have HB2 := Lib.hid ((show Below W.heap.size W _ from Below.drew (Below.refl _ _)).trans hb2); clear hb2; have HBLK2 := Lib.hid ((HB2.out.block _ HLT.out).trans HBLK.out); have HLT2 := Lib.hid (Nat.lt_of_lt_of_le HLT.out HB2.out.size); have d0 : w2.cell? ⟨w.heap.size, 0, none⟩ = some (.int .i64 6) := (cell_of_block HBLK2.out).trans rfl; have d1 : w2.cell? ⟨w.heap.size, 1, none⟩ = some (.int .i64 0) := (cell_of_block HBLK2.out).trans rfl; have d2 : w2.cell? ⟨w.heap.size, 2, none⟩ = some (.string f2) := (cell_of_block HBLK2.out).trans rfl; have d3 : w2.cell? ⟨w.heap.size, 3, none⟩ = some (.slice A L.length c) := (cell_of_block HBLK2.out).trans rfl))
  rotate_left 2
  rotate_left 1
  iterate 2 (
    focus (obtain ⟨W3, hW3⟩ : ∃ W3, W3 = (w2.alloc (.cells #[.int .i64 0, .bool false, .bool true, .bool true] 139)) := ⟨_, rfl⟩; rw [← hW3]; have k0 : W3.cell? ⟨w2.heap.size, 0, none⟩ = some (.int .i64 0) := (by rw [hW3, cell_of_block (heap_alloc_new w2 _)] <;> rfl); have k1 : W3.cell? ⟨w2.heap.size, 1, none⟩ = some (.bool false) := (by rw [hW3, cell_of_block (heap_alloc_new w2 _)] <;> rfl); have k2 : W3.cell? ⟨w2.heap.size, 2, none⟩ = some (.bool true) := (by rw [hW3, cell_of_block (heap_alloc_new w2 _)] <;> rfl); have k3 : W3.cell? ⟨w2.heap.size, 3, none⟩ = some (.bool true) := (by rw [hW3, cell_of_block (heap_alloc_new w2 _)] <;> rfl); have b0 : W3.cell? ⟨w.heap.size, 0, none⟩ = some (.int .i64 6) := (by rw [hW3, cell_of_block ((Below.heap_alloc _ _ _ HLT2.out).trans HBLK2.out)] <;> rfl); have b1 : W3.cell? ⟨w.heap.size, 1, none⟩ = some (.int .i64 0) := (by rw [hW3, cell_of_block ((Below.heap_alloc _ _ _ HLT2.out).trans HBLK2.out)] <;> rfl); have b2 : W3.cell? ⟨w.heap.size, 2, none⟩ = some (.string f2) := (by rw [hW3, cell_of_block ((Below.heap_alloc _ _ _ HLT2.out).trans HBLK2.out)] <;> rfl); have b3 : W3.cell? ⟨w.heap.size, 3, none⟩ = some (.slice A L.length c) := (by rw [hW3, cell_of_block ((Below.heap_alloc _ _ _ HLT2.out).trans HBLK2.out)] <;> rfl); have HB3 := Lib.hid (show Below w.heap.size w W3 from by rw [hW3]; exact (HB0.out.trans (HB2.out.mono HB0.out.size)).alloc (Nat.le_of_lt HLT2.out) _); have HLT3 := Lib.hid (show w.heap.size < W3.heap.size from by rw [hW3]; have := HLT2.out; simp <;> omega); have HBLK3 := Lib.hid (show W3.heap[w.heap.size]? = some (.cells #[.int .i64 6, .int .i64 0, .string f2, .slice A L.length c] 44) from by rw [hW3]; exact (Below.heap_alloc _ _ _ HLT2.out).trans HBLK2.out); clear hW3 d0 d1 d2 d3 c0 c1 c2 c3; generalize w2.heap.size = kb at k0 k1 k2 k3 ⊢)
    rotate_left 1)
  focus (obtain ⟨W3, hW3⟩ : ∃ W3, W3 = ((((w2.setCell ⟨W.heap.size, 0, none⟩ (.int .i64 0)).setCell ⟨W.heap.size, 1, none⟩ (.bool false)).setCell ⟨W.heap.size, 2, none⟩ (.bool true)).setCell ⟨W.heap.size, 3, none⟩ (.bool true)) := ⟨_, rfl⟩; rw [← hW3]; have k0 : W3.cell? ⟨W.heap.size, 0, none⟩ = some (.int .i64 0) := (by rw [hW3] <;> simp [go_sem, e0, e1, e2, e3]); have k1 : W3.cell? ⟨W.heap.size, 1, none⟩ = some (.bool false) := (by rw [hW3] <;> simp [go_sem, e0, e1, e2, e3]); have k2 : W3.cell? ⟨W.heap.size, 2, none⟩ = some (.bool true) := (by rw [hW3] <;> simp [go_sem, e0, e1, e2, e3]); have k3 : W3.cell? ⟨W.heap.size, 3, none⟩ = some (.bool true) := (by rw [hW3] <;> simp [go_sem, e0, e1, e2, e3]); have b0 : W3.cell? ⟨w.heap.size, 0, none⟩ = some (.int .i64 6) := (by rw [hW3, World.cell?_setCell_far _ _ _ _ HNE, World.cell?_setCell_far _ _ _ _ HNE, World.cell?_setCell_far _ _ _ _ HNE, World.cell?_setCell_far _ _ _ _ HNE] <;> exact d0); have b1 : W3.cell? ⟨w.heap.size, 1, none⟩ = some (.int .i64 0) := (by rw [hW3, World.cell?_setCell_far _ _ _ _ HNE, World.cell?_setCell_far _ _ _ _ HNE, World.cell?_setCell_far _ _ _ _ HNE, World.cell?_setCell_far _ _ _ _ HNE] <;> exact d1); have b2 : W3.cell? ⟨w.heap.size, 2, none⟩ = some (.string f2) := (by rw [hW3, World.cell?_setCell_far _ _ _ _ HNE, World.cell?_setCell_far _ _ _ _ HNE, World.cell?_setCell_far _ _ _ _ HNE, World.cell?_setCell_far _ _ _ _ HNE] <;> exact d2); have b3 : W3.cell? ⟨w.heap.size, 3, none⟩ = some (.slice A L.length c) := (by rw [hW3, World.cell?_setCell_far _ _ _ _ HNE, World.cell?_setCell_far _ _ _ _ HNE, World.cell?_setCell_far _ _ _ _ HNE, World.cell?_setCell_far _ _ _ _ HNE] <;> exact d3); have HB3 := Lib.hid (show Below w.heap.size w W3 from by rw [hW3]; refine Below.setCell (Below.setCell (Below.setCell (Below.setCell (HB0.out.trans (HB2.out.mono HB0.out.size)) ?_ _) ?_ _) ?_ _) ?_ _ <;> exact Nat.le_of_lt HLT.out); have HLT3 := Lib.hid (show w.heap.size < W3.heap.size from by rw [hW3]; have := HLT2.out; simp <;> omega); have HBLK3 := Lib.hid (show W3.heap[w.heap.size]? = some (.cells #[.int .i64 6, .int .i64 0, .string f2, .slice A L.length c] 44) from by rw [hW3]; exact (((Below.heap_setCell _ _ _ _ HNE.symm).trans (Below.heap_setCell _ _ _ _ HNE.symm)).trans ((Below.heap_setCell _ _ _ _ HNE.symm).trans (Below.heap_setCell _ _ _ _ HNE.symm))).trans HBLK2.out); clear hW3 d0 d1 d2 d3 c0 c1 c2 c3 e0 e1 e2 e3 g0 g1 g2 g3; obtain ⟨kb, hkb⟩ : ∃ kb, kb = W.heap.size := ⟨_, rfl⟩; rw [← hkb] at k0 k1 k2 k3 ⊢; clear hkb)
  all_goals
    have HRES : Hid (if L.any (bBad a1 a2) = true then r = false else sound_fits.f f2 true L.length = some r) := HF
    go_wp2_with fail
    go_loop [73] (fun i => ∃ k : Nat, k ≤ L.length ∧ i = .int .i64 k ∧ Hid (∀ j, j < k → bBad a1 a2 (rd L j) = false)) (fun i => L.length - (intOf i).toNat)
    case atStart => exact ⟨0, Nat.zero_le _, rfl, fun j h => absurd h (Nat.not_lt_zero j)⟩
    case round =>
      obtain ⟨k, hk, rfl, HJ⟩ := hrel
      by_cases hlt : k < L.length
      · obtain ⟨bb, off, v, rfl, hbz, hcell, hv, hv2⟩ := elem_at HR.out k hlt
        have hc3 := (HB3.out.cell (p := ⟨bb, off + k, none⟩) hbz).trans hcell
        have HV := Lib.hid hv
        have HV2 := Lib.hid hv2
        clear hcell hv hv2 hbz
        by_cases hbad : v ≤ a1 ∨ a2 ≤ v
        · have hr : r = false := by
            have hh := HRES.out
            rw [if_pos (List.any_eq_true.mpr ⟨v, by rw [← HV2.out]; exact List.getElem_mem hlt, decide_eq_true hbad⟩)] at hh
            exact hh
          subst hr
          rcases hbad with h1 | h1
          · go_wp2_with fail
            all_goals
              go_ret2
              exact ⟨rfl, HB3.out⟩
          · by_cases h2 : v ≤ a1
            all_goals
              go_wp2_with fail
              go_ret2
              exact ⟨rfl, HB3.out⟩
        · have h1 : ¬ v ≤ a1 := fun h => hbad (Or.inl h)
          have h2 : ¬ a2 ≤ v := fun h => hbad (Or.inr h)
          have HBAD := Lib.hid hbad
          clear hbad
          go_wp2_with fail
          go_round
          case rel => exact ⟨k + 1, by omega, by go_num, fun j hj => by
            by_cases hjk : j < k
            · exact HJ.out j hjk
            · obtain rfl : j = k := by omega
              rw [HV.out]; exact decide_eq_false HBAD.out⟩
          case measure => simp [intOf]; omega
      · have hkl : k = L.length := by omega
        have hall : L.any (bBad a1 a2) = false := by
          rw [List.any_eq_false]
          intro x hx
          obtain ⟨j, hj, rfl⟩ := List.mem_iff_getElem.mp hx
          have := HJ.out j (by omega)
          simp [rd, List.getD, hj] at this
          simp [this]
        have hf : sound_fits.f f2 true L.length = some r := by
          have hh := HRES.out
          rw [hall] at hh
          exact hh
        have HF2 := Lib.hid hf
        clear hf hall hkl
        go_wp2_with (go_at_call 107; refine (sound_fits.calls f2 true _ r _ HF2.out).mono ?_; rintro e w4 ⟨rfl, hb4⟩; have HB4 := Lib.hid hb4; clear hb4)
        go_ret2
        exact ⟨rfl, HB3.out.trans (HB4.out.mono (Nat.le_of_lt HLT3.out))⟩

end Go.Proofs.Ytlnjikneepgpaaa.G
