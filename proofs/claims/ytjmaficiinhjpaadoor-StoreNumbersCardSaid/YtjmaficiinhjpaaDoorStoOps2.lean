/- store: Set, Drop, Pop, Push walked. -/
import Derived.Test.YtjmaficiinhjpaaDoorStoOps
namespace Go.Proofs.YtjmaficiinhjpaaDoor.G
open Go.RowKit Go.Maps Go.Sort Go.WideMaps

theorem grownBy_store {w : World} {p : Addr} (u : Value) : w.grownBy (w.setCell p u) (some p.block) :=
  ⟨rfl, rfl, rfl, by simp [World.setCell], fun k _ hne => Below.heap_setCell _ _ _ _ (fun e => hne (by rw [e]))⟩
/-- The turns counted on. -/
theorem StoreV.counted {base : Nat} {w : World} {sb n : Nat} {G : List Vr} {F : List Fr} {turns : Int} {gm : Nat} {fv : Value} (h : StoreV base w sb n G F turns gm fv) (t : Int) : StoreV base (w.setCell ⟨sb, 3, none⟩ (.int .i64 t)) sb n G F t gm fv := by
  have hst := grownBy_store (w := w) (p := ⟨sb, 3, none⟩) (.int .i64 t)
  have hk : ∀ k, k ≠ sb → (w.setCell ⟨sb, 3, none⟩ (.int .i64 t)).heap[k]? = w.heap[k]? := fun k hk => Below.heap_setCell _ _ _ _ (by exact hk)
  refine ⟨?_, ?_, ?_, ?_, ?_, h.mp.kept (hk gm h.ne1), row_kept h.row (fun k e => hk k (fun e2 => h.ne2 (by rw [← e2]; exact e))), fun f hf => ⟨(h.fm f hf).1.elim fun k hm => ⟨k, hm.kept (hk f.1 (h.fm f hf).2.2.1)⟩, (h.fm f hf).2⟩,
    h.hsb, Nat.lt_of_lt_of_le h.hsz hst.size, h.hgm, h.ne1, h.ne2, h.ne3, Nat.le_trans h.hz hst.size, h.len, h.rises⟩
  · rw [World.cell?_setCell_other w ⟨sb, 3, none⟩ _ _ (by simp)]; exact h.c0
  · rw [World.cell?_setCell_other w ⟨sb, 3, none⟩ _ _ (by simp)]; exact h.c2
  · exact World.cell?_setCell_same w ⟨sb, 3, none⟩ _ h.c3
  · rw [World.frozen?_setCell]; exact h.f2
  · rw [World.frozen?_setCell]; exact h.f3
theorem StoreV.moved_refl {base : Nat} {w w' : World} {sb n' : Nat} {G' : List Vr} {F : List Fr} {t : Int} {gm : Nat} {fv : Value} (h : StoreV base w' sb n' G' F t gm fv) (hA : Apart (Foot sb gm fv F) w w') : Moved base w w' sb n' G' F t gm fv F fv :=
  ⟨h, fun _ hk => Or.inl hk, hA⟩
/-- The ground's map written: it holds other variables. -/
theorem StoreV.ground {base : Nat} {w w' : World} {sb n n' : Nat} {G G' : List Vr} {F : List Fr} {turns : Int} {gm : Nat} {fv : Value} (h : StoreV base w sb n G F turns gm fv) (hg : w.grownBy w' (some gm)) (hm : StrMap w' gm n' (lookD G')) (hr : RisesV G') : StoreV base w' sb n' G' F turns gm fv := by
  have hk : ∀ k, k < w.heap.size → k ≠ gm → w'.heap[k]? = w.heap[k]? := fun k hz hk => hg.block k hz (fun e => hk (Option.some.inj e))
  have hs := hk sb h.hsz (fun e => h.ne1 e.symm)
  exact ⟨(cells_kept hs).trans h.c0, (cells_kept hs).trans h.c2, (cells_kept hs).trans h.c3, (frozen_kept hs).trans h.f2, (frozen_kept hs).trans h.f3, hm,
    row_kept h.row (fun k e => hk k (h.row.lt k e).2 (fun e2 => h.ne3 (by rw [← e2]; exact e))), fun f hf => ⟨(h.fm f hf).1.elim fun k hmf => ⟨k, hmf.kept (hk f.1 hmf.lt (h.fm f hf).2.2.2.1)⟩, (h.fm f hf).2⟩,
    h.hsb, Nat.lt_of_lt_of_le h.hsz hg.size, h.hgm, h.ne1, h.ne2, h.ne3, Nat.le_trans h.hz hg.size, h.len, hr⟩

set_option maxHeartbeats 4000000 in
set_option maxRecDepth 100000 in
theorem Set.calls {base : Nat} {w : World} {sb n : Nat} {G : List Vr} {F : List Fr} {turns : Int} {gm : Nat} {fv : Value} (h : StoreV base w sb n G F turns gm fv) (v : Vr) (hv : v.name.size ≤ maxLen) (hn : n < maxLen) :
    Calls Tryd.prog 21 #[.pointer (some ⟨sb, 0, none⟩), .agg #[.string v.name, .string v.val, .int .i64 v.fl, .int .i64 v.og]] w fun e w' => e = .returned (.tuple #[]) ∧ Moved base w w' sb (n + 1) (setG G v) F (wrap64 (turns + 1)) gm fv F fv := by
  have hkey := key_mk v.name hv
  have h1 := h.later ((Below.refl _ w).alloc (Nat.le_refl _) (.cells #[.string v.name, .string v.val, .int .i64 v.fl, .int .i64 v.og] 27))
  have h0 := h.counted (wrap64 (turns + 1))
  have hz0 : (w.setCell ⟨sb, 3, none⟩ (.int .i64 (wrap64 (turns + 1)))).heap.size = w.heap.size := by simp [World.setCell]
  have h2 := h0.later ((Below.refl _ _).alloc (Nat.le_refl _) (.cells #[.string v.name, .string v.val, .int .i64 v.fl, .int .i64 v.og] 27))
  have hbx := heap_alloc_new (w.setCell ⟨sb, 3, none⟩ (.int .i64 (wrap64 (turns + 1)))) (.cells #[.string v.name, .string v.val, .int .i64 v.fl, .int .i64 v.og] 27)
  rw [hz0] at hbx
  have hsw : sb ≠ w.heap.size := by have := h.hsz; omega
  have hsz := h.hsz
  have H := Lib.hid h
  have H2 := Lib.hid h2
  have c3 := h1.c3
  have f3 := h1.f3
  obtain ⟨w2, hw2⟩ : ∃ w2, w2 = (w.setCell ⟨sb, 3, none⟩ (.int .i64 (wrap64 (turns + 1)))).alloc (.cells #[.string v.name, .string v.val, .int .i64 v.fl, .int .i64 v.og] 27) := ⟨_, rfl⟩
  rw [← hw2] at H2
  have hb2 : w2.heap[w.heap.size]? = some (.cells #[.string v.name, .string v.val, .int .i64 v.fl, .int .i64 v.og] 27 (0, 0)) := by rw [hw2]; exact hbx
  have b0 := cell_of_block (j := 0) hb2
  have b1 := cell_of_block (j := 1) hb2
  have b2 := cell_of_block (j := 2) hb2
  have b3 := cell_of_block (j := 3) hb2
  simp only [List.getElem?_toArray, List.getElem?_cons_zero, List.getElem?_cons_succ] at b0 b1 b2 b3
  have d0 := H2.out.c0
  obtain ⟨D, hown, hat, hhas⟩ := H2.out.mp
  have HOWN := Lib.hid hown
  have HAT := Lib.hid hat
  have HHAS := Lib.hid hhas
  have HW := Lib.hid hw2
  clear h h1 h0 hz0 h2 hbx hb2 hown hat hhas
  go_enter Tryd.func21, Tryd.ntmps21
  go_wp2
  rw [← hw2]
  clear hw2 c3 f3
  go_still_tail 8, (by kernel_rfl)
  change wpList _ _ _ _ _ w2.drew
  go_wp2_with (first
    | (at_mapUpdate; refine wpList_mapUpdate_own _ rfl _ _ _ 51 rfl 9 27 str_law Tryd.underlying51 varR gm n D rfl HOWN.out.drew hn _ _ _ rfl rfl hkey _ [] (varR_mk v) ?_; intro w4 hown4 hgr4)
    | go_in)
  go_end0
  refine ⟨rfl, ?_⟩
  have h2 := H2.out
  have hgr : w2.grownBy w4 (some gm) := ⟨hgr4.os, hgr4.tape, hgr4.output, hgr4.size, hgr4.block⟩
  have hm : StrMap w4 gm (n + 1) (lookD (setG G v)) := ⟨_, hown4, fun y z => by rw [lookD_setG H.out.rises]; exact atKey_put HOWN.out.isMap HAT.out v.datum v.name y z, fun y => by rw [lookD_setG H.out.rises]; exact has_put HOWN.out.isMap HHAS.out v.datum v.name y⟩
  have h4 := h2.ground hgr hm (setG_rises H.out.rises v)
  refine StoreV.moved_refl h4 ?_
  have a1 : Apart (Foot sb gm fv F) w w2 := by
    rw [HW.out]
    exact Apart.andThen (Apart.mono (F' := Foot sb gm fv F) (Apart.of_grown (grownBy_store (p := ⟨sb, 3, none⟩) _)) (fun k _ e => Or.inl (Option.some.inj e).symm)) (Apart.alloc (Foot sb gm fv F) _ _) (fun _ _ h => h)
  exact a1.andThen (Apart.of_grown hgr) (fun k _ e => Or.inr (Or.inl (Option.some.inj e).symm))
end Go.Proofs.YtjmaficiinhjpaaDoor.G
