/- memo: the walks of kept.drop and kept.put. -/
import Derived.Test.YtabdjijlmiobhaaMemoDef
import Derived.OwnWalk
import Derived.Maps.AppendAt
import Derived.Outline
namespace Go.Proofs.Ytabdjijlmiobhaa.G
open Go.RowKit Go.Maps Go.Sort

/-- A row one shorter behind slices.Delete. -/
theorem row_deleted {w : World} {base g cap q j : Nat} {cur : Array Value} {zs : List ByteArray} (hbase : base ≤ g) (hb : w.heap[g]? = some (.cells cur 9 (0, 0))) (h1 : zs.length ≤ cap) (h2 : cap ≤ maxLen) (h3 : cur.size = cap * 1) (hj : j < zs.length)
    (ys : List ByteArray) (hy : zs.take j ++ zs.drop (j + 1) = ys) :
    (putRow encStr (Sort.ahead w q) g 0 ((zs.map (fun z : ByteArray => z.data.toList)).take j ++ (zs.map (fun z : ByteArray => z.data.toList)).drop (j + 1) ++ List.replicate (j + 1 - j) []).toArray).ownsRow base 9 1 (.slice (some ⟨g, 0, none⟩) ys.length cap) ys.length (cellsOf ys) := by
  have hs := heap_sorted (n := q) (os := #[]) ((zs.map (fun z : ByteArray => z.data.toList)).take j ++ (zs.map (fun z : ByteArray => z.data.toList)).drop (j + 1) ++ List.replicate (j + 1 - j) []).toArray hb
  have hl : ys.length + 1 = zs.length := by rw [← hy]; simp; omega
  have hys : (zs.map (fun z : ByteArray => z.data.toList)).take j ++ (zs.map (fun z : ByteArray => z.data.toList)).drop (j + 1) = ys.map (fun z : ByteArray => z.data.toList) := by
    rw [← hy, List.map_append, List.map_take, List.map_drop]
  rw [hys] at hs ⊢
  have hr1 : List.replicate (j + 1 - j) ([] : List UInt8) = [[]] := by rw [show j + 1 - j = 1 by omega]; rfl
  rw [hr1] at hs ⊢
  have hs' : (putRow encStr (Sort.ahead w q) g 0 (ys.map (fun z : ByteArray => z.data.toList) ++ [[]]).toArray).heap[g]? = some (.cells (putCells encStr 0 (ys.map (fun z : ByteArray => z.data.toList) ++ [[]]).toArray cur) 9 (0, 0)) := by
    simpa [grow] using hs
  refine ⟨by simp [cellsOf], .inr ⟨g, cap, putCells encStr 0 (ys.map (fun z : ByteArray => z.data.toList) ++ [[]]).toArray cur, rfl, hbase, hs', by omega, h2, by simp [putCells, h3], ?_⟩⟩
  · have ht := take_putCells cur (ys.map (fun z : ByteArray => z.data.toList) ++ [[]]) (by simp; omega)
    rw [Nat.mul_one, cellsOf_enc]
    have h4 : ((putCells encStr 0 (ys.map (fun z : ByteArray => z.data.toList) ++ [[]]).toArray cur).toList.take (ys.map (fun z : ByteArray => z.data.toList) ++ [[]]).length).take ys.length = ((ys.map (fun z : ByteArray => z.data.toList) ++ [[]]).map encStr).take ys.length := by rw [ht]
    rw [List.take_take, List.map_append] at h4
    rw [Nat.min_eq_left (by simp)] at h4
    rw [h4, List.take_left' (by simp)]

theorem slice_of {base : Nat} {w : World} {v : Value} {n : Nat} {xs : List Value} (h : w.ownsRow base 9 1 v n xs) : ∃ a c, v = .slice a n c := by
  rcases h.2 with ⟨rfl, rfl⟩ | ⟨g, cap, cur, rfl, _⟩
  · exact ⟨_, _, rfl⟩
  · exact ⟨_, _, rfl⟩

theorem index_calls {base : Nat} {w : World} {v : Value} {zs : List ByteArray} (h : w.ownsRow base 9 1 v zs.length (cellsOf zs)) (hl : zs.length ≤ 2000) (x : ByteArray) :
    Calls Try.prog 44 #[v, .string x] w fun e w' => e = .returned (.int .i64 (Lib.idxOfS zs x)) ∧ w' = w := by
  rcases h.2 with ⟨rfl, h0⟩ | ⟨g, cap, cur, rfl, hb, hg, h1, h2, h3, h4⟩
  · have : zs = [] := List.length_eq_zero_iff.mp h0
    subst this
    exact Try.slices_Index_string_empty none 0 x w
  · have := Try.slices_Index_string g 0 zs.length cap zs x w (Nat.le_refl _) (by omega) (fun j hj => by
      rw [Nat.zero_add, h.cellAt j (by omega)]
      unfold cellsOf
      rw [List.getElem?_map, List.getElem?_eq_getElem hj, List.getD_eq_getElem?_getD, List.getElem?_eq_getElem hj]; rfl)
    rwa [List.take_length] at this

set_option maxHeartbeats 4000000 in
set_option maxRecDepth 100000 in
theorem drop_miss {base : Nat} {w : World} {cb n : Nat} {M h : Int} {E : List Ent} {v : Value} {bm : Nat} (hC : CacheV base w cb n M h E v bm) (x : ByteArray) (hm : x ∉ names E) :
    Calls Try.prog 35 #[.pointer (some ⟨cb, 2, none⟩), .string x] w fun e w' => e = .returned (.tuple #[]) ∧ w' = w := by
  have hI := Lib.hid (index_calls (zs := names E) (by simpa [names] using hC.row) (by have := hC.len; simp [names]; omega) x)
  rw [idx_miss x _ hm] at hI
  have c2 := hC.c2
  clear hC
  go_enter Try.func35, Try.ntmps35
  go_wp2_with (go_at_call 44; refine hI.out.mono ?_; rintro e w' ⟨rfl, rfl⟩)
  go_end0
  exact ⟨rfl, rfl⟩

/-- What a cache's block says, where that block is as it was. -/
theorem cells_kept {w w' : World} {cb j : Nat} (h : w'.heap[cb]? = w.heap[cb]?) : w'.cell? ⟨cb, j, none⟩ = w.cell? ⟨cb, j, none⟩ := World.cell?_of_block (a := ⟨cb, j, none⟩) h
theorem frozen_kept {w w' : World} {cb j : Nat} (h : w'.heap[cb]? = w.heap[cb]?) : w'.frozen? ⟨cb, j, none⟩ = w.frozen? ⟨cb, j, none⟩ := World.frozen?_of_block (a := ⟨cb, j, none⟩) h
theorem below_grown {B : Nat} {w w' : World} {row : Option Nat} (hg : w.grownBy w' row) (hB : B ≤ w.heap.size) (hr : ∀ k, row = some k → B ≤ k) : Below B w w' := (Below.refl B w).grown hg hB hr

theorem grownBy_put {w : World} {g q : Nat} (d : Array (List UInt8)) : w.grownBy (putRow encStr (Sort.ahead w q) g 0 d) (some g) := by
  refine ⟨rfl, rfl, rfl, by simp [putRow, mapBlock, Sort.ahead], fun k hk hne => ?_⟩
  have : g ≠ k := fun e => hne (by rw [e])
  simp [putRow, mapBlock, Sort.ahead, Array.getElem?_modify, this]
theorem grownBy_store {w : World} {p : Addr} (u : Value) : w.grownBy (w.setCell p u) (some p.block) :=
  ⟨rfl, rfl, rfl, by simp [World.setCell], fun k _ hne => Below.heap_setCell _ _ _ _ (fun e => hne (by rw [e]))⟩

/-- The cache's own cells behind a store of its names. -/
theorem cells_after {w w1 w3 : World} {cb bm : Nat} {M h : Int} {v v' : Value} (c0 : w.cell? ⟨cb, 0, none⟩ = some (.int .i64 M)) (c1 : w.cell? ⟨cb, 1, none⟩ = some (.int .i64 h)) (c2 : w.cell? ⟨cb, 2, none⟩ = some v) (c3 : w.cell? ⟨cb, 3, none⟩ = some (.map (some bm)))
    (f1 : w.frozen? ⟨cb, 1, none⟩ = false) (f2 : w.frozen? ⟨cb, 2, none⟩ = false) (hk1 : w1.heap[cb]? = w.heap[cb]?) (hk3 : w3.heap[cb]? = (w1.setCell ⟨cb, 2, none⟩ v').heap[cb]?) :
    w3.cell? ⟨cb, 0, none⟩ = some (.int .i64 M) ∧ w3.cell? ⟨cb, 1, none⟩ = some (.int .i64 h) ∧ w3.cell? ⟨cb, 2, none⟩ = some v' ∧ w3.cell? ⟨cb, 3, none⟩ = some (.map (some bm)) ∧ w3.frozen? ⟨cb, 1, none⟩ = false ∧ w3.frozen? ⟨cb, 2, none⟩ = false := by
  refine ⟨?_, ?_, ?_, ?_, ?_, ?_⟩
  · rw [cells_kept hk3, World.cell?_setCell_other w1 ⟨cb, 2, none⟩ _ v' (by simp), cells_kept hk1]; exact c0
  · rw [cells_kept hk3, World.cell?_setCell_other w1 ⟨cb, 2, none⟩ _ v' (by simp), cells_kept hk1]; exact c1
  · rw [cells_kept hk3]; exact World.cell?_setCell_same w1 ⟨cb, 2, none⟩ v' ((cells_kept hk1).trans c2)
  · rw [cells_kept hk3, World.cell?_setCell_other w1 ⟨cb, 2, none⟩ _ v' (by simp), cells_kept hk1]; exact c3
  · rw [frozen_kept hk3, World.frozen?_setCell, frozen_kept hk1]; exact f1
  · rw [frozen_kept hk3, World.frozen?_setCell, frozen_kept hk1]; exact f2

set_option maxHeartbeats 4000000 in
set_option maxRecDepth 100000 in
theorem drop_hit {base : Nat} {w : World} {cb n : Nat} {M h : Int} {E : List Ent} {v : Value} {bm : Nat} (hC : CacheV base w cb n M h E v bm) (x : ByteArray) (hx : x.size ≤ maxLen) (hm : x ∈ names E) :
    Calls Try.prog 35 #[.pointer (some ⟨cb, 2, none⟩), .string x] w fun e w' => e = .returned (.tuple #[]) ∧ ∃ v', Moved base w w' cb n M h (without E x) v bm v' := by
  have hnl : (names E).length = E.length := by simp [names]
  have hlen := hC.len
  have hI := Lib.hid (index_calls (zs := names E) (by rw [hnl]; exact hC.row) (by omega) x)
  obtain ⟨j, hj, hj1, hj2⟩ := idx_del x _ hC.nodup hm
  rw [hj] at hI
  have hrow := hC.row
  rcases hrow.2 with ⟨rfl, h0⟩ | ⟨g, cap, cur, rfl, hb, hg, h1, h2, h3, h4⟩
  · exact absurd hj1 (by omega)
  have hgc : g ≠ cb := fun e => hC.ne2 (by rw [e]; rfl)
  have hgb : g ≠ bm := fun e => hC.ne3 (by rw [e]; rfl)
  have hcz := hC.hcz
  have hDel := Try.slices_Delete_string g 0 cap j (j + 1) ((names E).map (fun z : ByteArray => z.data.toList)) w
    (holds_of_block hg (by simp only [List.length_map]; rw [← cellsOf_enc, hnl]; simpa using h4)) (by simp; omega) (by unfold maxLen at h2; omega) (by omega) (by simp; omega)
  have hD2 : Calls Try.prog 45 #[.slice (some ⟨g, 0, none⟩) E.length cap, .int .i64 j, .int .i64 ((j : Int) + 1)] w fun e w1 => e = .returned (.slice (some ⟨g, 0, none⟩) (without E x).length cap) ∧
      w1.ownsRow base 9 1 (.slice (some ⟨g, 0, none⟩) (without E x).length cap) (without E x).length (cellsOf (names (without E x))) ∧ w.grownBy w1 (some g) := by
    have hw : (without E x).length = (names E).length - (j + 1 - j) := by
      have : (names (without E x)).length = (without E x).length := by simp [names]
      rw [← this, names_without, ← hj2]; simp; omega
    have e1 : ((j : Int) + 1) = ((j + 1 : Nat) : Int) := by omega
    rw [e1, ← hnl]
    rw [List.length_map] at hDel
    refine hDel.mono ?_
    rintro e w1 ⟨rfl, q, rfl⟩
    refine ⟨by rw [hw], ?_, ?_⟩
    · have hn2 : (names (without E x)).length = (without E x).length := by simp [names]
      have := row_deleted (q := q) hb hg (by omega) h2 h3 hj1 (names (without E x)) (by rw [names_without]; exact hj2)
      rw [hn2] at this
      exact this
    · exact grownBy_put _
  have HD2 := Lib.hid hD2
  clear hDel hD2
  have hkey := key_mk x hx
  obtain ⟨D, hown, hat, hhas⟩ := hC.mp
  have HC := Lib.hid hC
  have HAT := Lib.hid hat
  have HHAS := Lib.hid hhas
  have HOWN := Lib.hid hown
  have c2 := hC.c2
  clear hC hat hhas hown hj hj2 hg h1 h3 h4 hrow hm
  have wj : wrap64 ((j : Int) + 1) = (j : Int) + 1 := by unfold wrap64; omega
  go_enter Try.func35, Try.ntmps35
  go_wp2_with (first
    | (go_at_call 44; refine hI.out.mono ?_; rintro e w' ⟨rfl, rfl⟩)
    | (go_at_call 45; refine HD2.out.mono ?_; rintro e w1 ⟨rfl, hrow1, hgr1⟩; have hk1 := hgr1.block cb hcz (by intro e; exact hgc (Option.some.inj e).symm); have c2' := (cells_kept (j := 2) hk1).trans HC.out.c2; have c3' := (cells_kept (j := 3) hk1).trans HC.out.c3; have f2' := (frozen_kept (j := 2) hk1).trans HC.out.f2; have HROW1 := Lib.hid hrow1; have HGR1 := Lib.hid hgr1; clear hrow1 hgr1 hk1)
    | (at_delete; refine wpList_delete_own _ rfl _ _ 55 9 rfl 66 str_law Try.underlying55 valR bm n D rfl ((HOWN.out.kept HGR1.out (by intro e; exact hgb (Option.some.inj e).symm)).setCell (by exact HC.out.ne1) _) _ _ rfl hkey ?_; intro w3 hown3 hturn3)
    | go_in)
  go_end0
  have hC := HC.out
  have hgr1 := HGR1.out
  have hk1 := hgr1.block cb hcz (by intro e; exact hgc (Option.some.inj e).symm)
  have hcz1 : cb < w1.heap.size := Nat.lt_of_lt_of_le hcz hgr1.size
  have hst := grownBy_store (w := w1) (p := ⟨cb, 2, none⟩) (.slice (some ⟨g, 0, none⟩) (without E x).length cap)
  have hgr3 := hturn3.grown
  have hk3 := hgr3.block cb (Nat.lt_of_lt_of_le hcz1 hst.size) (by intro e; exact hC.ne1 (Option.some.inj e).symm)
  obtain ⟨d0, d1, d2, d3, e1, e2⟩ := cells_after hC.c0 hC.c1 hC.c2 hC.c3 hC.f1 hC.f2 hk1 hk3
  have hsz3 : w1.heap.size ≤ w3.heap.size := Nat.le_trans hst.size hgr3.size
  refine ⟨rfl, _, ⟨{ c0 := d0, c1 := d1, c2 := d2, c3 := d3, f1 := e1, f2 := e2, row := ?_, mp := ?_, hcb := hC.hcb, hbm := hC.hbm, ne1 := hC.ne1, ne2 := ?_, ne3 := ?_, nodup := nodup_without hC.nodup x, len := ?_, hz := ?_, hcz := ?_, szs := ?_ }, fun k hk => Or.inl hk, ?_⟩⟩
  · exact (HROW1.out.kept hst (Or.inr (by intro e; exact hgc (Option.some.inj e)))).kept hgr3 (Or.inr (by intro e; exact hgb (Option.some.inj e)))
  · exact ⟨_, hown3, fun y z => by rw [look_without]; exact atKey_del HAT.out x y z, fun y => by rw [look_without]; exact has_del HHAS.out x y⟩
  · intro e; exact hgc (Option.some.inj e)
  · intro e; exact hgb (Option.some.inj e)
  · exact Nat.le_trans (List.length_filter_le _ _) hC.len
  · exact Nat.le_trans (Nat.le_trans hC.hz hgr1.size) hsz3
  · exact Nat.lt_of_lt_of_le hcz1 hsz3
  · exact fun e he => hC.szs e (List.mem_filter.mp he).1
  · have a1 : Apart (Foot cb bm (.slice (some ⟨g, 0, none⟩) E.length cap)) _ w1 := (Apart.of_grown hgr1).mono (fun k _ e => Or.inr (Or.inr e))
    refine a1.andThen (F' := Foot cb bm (.slice (some ⟨g, 0, none⟩) E.length cap)) (((Apart.of_grown hst).mono (fun k _ e => Or.inl (Option.some.inj e).symm)).andThen (F' := fun k => some bm = some k) (Apart.of_grown hgr3) (fun k _ e => Or.inr (Or.inl (Option.some.inj e).symm))) (fun _ _ h => h)

theorem drop.calls {base : Nat} {w : World} {cb n : Nat} {M h : Int} {E : List Ent} {v : Value} {bm : Nat} (hC : CacheV base w cb n M h E v bm) (x : ByteArray) (hx : x.size ≤ maxLen) :
    Calls Try.prog 35 #[.pointer (some ⟨cb, 2, none⟩), .string x] w fun e w' => e = .returned (.tuple #[]) ∧ ∃ v', Moved base w w' cb n M h (without E x) v bm v' := by
  by_cases hm : x ∈ names E
  · exact drop_hit hC x hx hm
  · refine (drop_miss hC x hm).mono ?_
    rintro e w' ⟨rfl, rfl⟩
    exact ⟨rfl, v, ⟨by rw [without_self hm]; exact hC, fun k hk => Or.inl hk, Apart.refl _ _⟩⟩
end Go.Proofs.Ytabdjijlmiobhaa.G
