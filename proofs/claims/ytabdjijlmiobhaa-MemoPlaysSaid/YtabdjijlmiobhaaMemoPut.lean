/- memo: the walk of kept.put. -/
import Derived.Test.YtabdjijlmiobhaaMemoDrop
import Derived.StillTailTactics
namespace Go.Proofs.Ytabdjijlmiobhaa.G
open Go.RowKit Go.Maps Go.Sort

theorem CacheV.bmz {base : Nat} {w : World} {cb n : Nat} {M h : Int} {E : List Ent} {v : Value} {bm : Nat} (hC : CacheV base w cb n M h E v bm) : bm < w.heap.size := by
  obtain ⟨D, hown, _⟩ := hC.mp
  exact hown.lt
theorem CacheV.footz {base : Nat} {w : World} {cb n : Nat} {M h : Int} {E : List Ent} {v : Value} {bm : Nat} (hC : CacheV base w cb n M h E v bm) (k : Nat) (hk : Foot cb bm v k) : base ≤ k ∧ k < w.heap.size := by
  rcases hk with rfl | rfl | hk
  · exact ⟨hC.hcb, hC.hcz⟩
  · exact ⟨hC.hbm, hC.bmz⟩
  · exact hC.row.lt k hk

/-- A cache where other blocks turn alone. -/
theorem CacheV.kept {base : Nat} {w w' : World} {cb n : Nat} {M h : Int} {E : List Ent} {v : Value} {bm : Nat} (hC : CacheV base w cb n M h E v bm) {F : Nat → Prop} (hA : Apart F w w') (hF : ∀ k, F k → ¬ Foot cb bm v k) : CacheV base w' cb n M h E v bm := by
  have hk : ∀ k, Foot cb bm v k → w'.heap[k]? = w.heap[k]? := fun k hk => hA.block k (hC.footz k hk).2 (fun hh => hF k hh hk)
  have hcb := hk cb (Or.inl rfl)
  have hrow : w'.ownsRow base 9 1 v E.length (cellsOf (names E)) := by
    rcases hC.row with ⟨h1, h2 | ⟨g, cap, cur, rfl, hb, hg, h3⟩⟩
    · exact ⟨h1, Or.inl h2⟩
    · exact ⟨h1, Or.inr ⟨g, cap, cur, rfl, hb, (hk g (Or.inr (Or.inr rfl))).trans hg, h3⟩⟩
  have hmp : StrMap w' bm n (look E) := by
    obtain ⟨D, ⟨es, clock, hb, hh⟩, h2⟩ := hC.mp
    exact ⟨D, ⟨es, clock, (hk bm (Or.inr (Or.inl rfl))).trans hb, hh⟩, h2⟩
  exact ⟨(cells_kept hcb).trans hC.c0, (cells_kept hcb).trans hC.c1, (cells_kept hcb).trans hC.c2, (cells_kept hcb).trans hC.c3, (frozen_kept hcb).trans hC.f1, (frozen_kept hcb).trans hC.f2,
    hrow, hmp, hC.hcb, hC.hbm, hC.ne1, hC.ne2, hC.ne3, hC.nodup, hC.len, Nat.le_trans hC.hz hA.size, Nat.lt_of_lt_of_le hC.hcz hA.size, hC.szs⟩
theorem CacheV.alloc {base : Nat} {w : World} {cb n : Nat} {M h : Int} {E : List Ent} {v : Value} {bm : Nat} (hC : CacheV base w cb n M h E v bm) (o : Obj) : CacheV base (w.alloc o) cb n M h E v bm :=
  hC.kept (Apart.alloc (fun _ => False) w o) (fun _ h => h.elim)

/-- What the append left. -/
theorem put_kept {base : Nat} {w0 w w1 w2 : World} {cb n : Nat} {M h : Int} {E E' : List Ent} {v v1 : Value} {bm : Nat} {o o' : Obj} (hC : CacheV base w0 cb n M h E v bm) (hw : w = w0.alloc o) (hM : Moved base w w1 cb n M h E' v bm v1) (hg : (w1.alloc o').grownBy w2 v1.ownBlock) :
    w2.heap[cb]? = w1.heap[cb]? ∧ w2.heap[bm]? = w1.heap[bm]? ∧ w2.heap[w0.heap.size]? = some o := by
  subst hw
  have hz1 : w0.heap.size < w1.heap.size := Nat.lt_of_lt_of_le (by simp) hM.apart.size
  have hb : ∀ k, k < w1.heap.size → v1.ownBlock ≠ some k → w2.heap[k]? = w1.heap[k]? := fun k hk hn =>
    (hg.block k (by simp; omega) (fun e => hn e.symm)).trans (Below.heap_alloc w1 o' k hk)
  have hnf : ¬ Foot cb bm v w0.heap.size := fun h => Nat.lt_irrefl _ (hC.footz _ h).2
  refine ⟨hb cb hM.cache.hcz hM.cache.ne2, hb bm hM.cache.bmz hM.cache.ne3, ?_⟩
  rw [hb w0.heap.size hz1 (fun e => ?_), hM.apart.block _ (by simp) hnf, heap_alloc_new]
  rcases hM.own _ e with h | h
  · exact hnf (Or.inr (Or.inr h))
  · simp at h
    omega

theorem cell_of_block {w : World} {b j : Nat} {C : Array Value} {t : TypeId} (h : w.heap[b]? = some (.cells C t (0, 0))) : w.cell? ⟨b, j, none⟩ = C[j]? := by
  simp [World.cell?, h]
theorem StrMap.kept {w w' : World} {b n : Nat} {g : ByteArray → Option (DataW Unit)} (h : StrMap w b n g) (hk : w'.heap[b]? = w.heap[b]?) : StrMap w' b n g := by
  obtain ⟨D, ⟨es, clock, hb, hh⟩, h2⟩ := h
  exact ⟨D, ⟨es, clock, hk.trans hb, hh⟩, h2⟩

theorem info_str : (Try.prog.info? 9).map (fun i => (i.zero, i.size, i.bytes)) = some (some (.string ⟨#[]⟩), 1, 16) := by kernel_rfl

set_option maxHeartbeats 8000000 in
set_option maxRecDepth 100000 in
theorem put.calls {base : Nat} {w : World} {cb n : Nat} {M h : Int} {E : List Ent} {v : Value} {bm : Nat} (hC : CacheV base w cb n M h E v bm) (e : Ent) (hx : e.name.size ≤ maxLen) (hn : n < maxLen) (hE : E.length ≤ 1000) :
    Calls Try.prog 34 #[.pointer (some ⟨cb, 2, none⟩), .string e.name, .agg #[.int .i64 e.turn, .int .i64 e.deep, .string e.val]] w fun x w' => x = .returned (.tuple #[]) ∧ ∃ v', Moved base w w' cb (n + 1) M h (without E e.name ++ [e]) v bm v' := by
  obtain ⟨i0, hi, hz0, hz1, hz2⟩ := info_parts info_str
  have hkey := key_mk e.name hx
  have HC := Lib.hid hC
  have hcz := hC.hcz
  have hbx := Lib.hid (heap_alloc_new w (.cells #[.int .i64 e.turn, .int .i64 e.deep, .string e.val] 66))
  have hnf := Lib.hid (show ¬ Foot cb bm v w.heap.size from fun h => Nat.lt_irrefl _ (hC.footz _ h).2)
  have hne' : cb ≠ w.heap.size := by omega
  clear hC
  go_enter Try.func34, Try.ntmps34
  go_wp2_with (first
    | (go_at_call 35; refine (drop.calls (HC.out.alloc _) e.name hx).mono ?_; rintro e1 w1 ⟨rfl, v1, hM1⟩; obtain ⟨a1, k1, rfl⟩ := slice_of hM1.cache.row; have HM := Lib.hid hM1; clear hM1; have c2 := HM.out.cache.c2)
    | (at_builtin; refine wpList_append_own_at _ rfl _ _ 56 rfl base 9 i0 (.string ⟨#[]⟩) 1 16 Try.underlying56 hi hz0 hz1 hz2 rfl (by decide) (.slice a1 (without E e.name).length k1) _ _ rfl (HM.out.cache.row.alloc _) ⟨w1.heap.size, 0, none⟩ 1 1 [.string e.name] rfl rfl (cell_one_new _ _ _) (by intro u hu; simp at hu; subst hu; rfl) (by have := HM.out.cache.len; unfold maxLen; omega) (by have := HM.out.cache.len; omega) (by have := HM.out.cache.hz; simp; omega) ?_; intro v2 w2 hown2 hgr2 hnil2 hloc2; obtain ⟨a2, k2, rfl⟩ := slice_of hown2; have hpk := put_kept HC.out rfl HM.out hgr2; have c2w := (cells_kept (j := 2) hpk.1).trans HM.out.cache.c2; have c3w := (cells_kept (j := 3) hpk.1).trans HM.out.cache.c3; have f2w := (frozen_kept (j := 2) hpk.1).trans HM.out.cache.f2; have b0 := cell_of_block (j := 0) hpk.2.2; have b1 := cell_of_block (j := 1) hpk.2.2; have b2 := cell_of_block (j := 2) hpk.2.2; simp only [List.getElem?_toArray, List.getElem?_cons_zero, List.getElem?_cons_succ] at b0 b1 b2; have HPK := Lib.hid hpk; have HOWN2 := Lib.hid hown2; have HGR2 := Lib.hid hgr2; have HLOC2 := Lib.hid hloc2; clear hpk hown2 hgr2 hnil2 hloc2)
    | go_in)
  have hst := Lib.hid (grownBy_store (w := w2) (p := ⟨cb, 2, none⟩) (.slice a2 ((without E e.name).length + 1) k2))
  have d3 := (World.cell?_setCell_other w2 ⟨cb, 2, none⟩ ⟨cb, 3, none⟩ (.slice a2 ((without E e.name).length + 1) k2) (by simp)).trans c3w
  have e0 := (World.cell?_setCell_other w2 ⟨cb, 2, none⟩ ⟨w.heap.size, 0, none⟩ (.slice a2 ((without E e.name).length + 1) k2) (by simp)).trans b0
  have e1 := (World.cell?_setCell_other w2 ⟨cb, 2, none⟩ ⟨w.heap.size, 1, none⟩ (.slice a2 ((without E e.name).length + 1) k2) (by simp)).trans b1
  have e2 := (World.cell?_setCell_other w2 ⟨cb, 2, none⟩ ⟨w.heap.size, 2, none⟩ (.slice a2 ((without E e.name).length + 1) k2) (by simp)).trans b2
  clear c2w c3w f2w b0 b1 b2 c2
  generalize hw3 : w2.setCell ⟨cb, 2, none⟩ (.slice a2 ((without E e.name).length + 1) k2) = w3 at d3 e0 e1 e2 hst ⊢
  have hsm : StrMap w3 bm n (look (without E e.name)) := (HM.out.cache.mp.kept HPK.out.2.1).kept (by rw [← hw3]; exact Below.heap_setCell _ _ _ _ (by exact HM.out.cache.ne1))
  obtain ⟨D, hown, hat, hhas⟩ := hsm
  have HOWN := Lib.hid hown
  have HAT := Lib.hid hat
  have HHAS := Lib.hid hhas
  have HW3 := Lib.hid hw3
  clear hw3 hown hat hhas
  go_still_tail 6, (by kernel_rfl)
  change wpList _ _ _ _ _ w3.drew
  go_wp2_with (first
    | (at_mapUpdate; refine wpList_mapUpdate_in _ rfl _ _ _ 55 rfl 9 66 str_law Try.underlying55 valR bm n D rfl HOWN.out.drew hn _ _ _ rfl rfl hkey _ [] (valR_mk e) ?_; intro w4 hown4 hturn4)
    | go_in)
  go_end0
  have hC := HC.out
  have hM := HM.out
  have hpk := HPK.out
  have hst := hst.out
  have hgr4 := hturn4.grown
  have hcz1 := hM.cache.hcz
  have hz12 : w1.heap.size + 1 ≤ w2.heap.size := by have := HGR2.out.size; simpa using this
  have hz23 : w3.heap.size = w2.heap.size := by rw [← HW3.out]; simp
  have hz34 : w3.heap.size ≤ w4.heap.size := hgr4.size
  have hz01 : w.heap.size + 1 ≤ w1.heap.size := by have := hM.apart.size; simpa using this
  have hk4 : w4.heap[cb]? = (w2.setCell ⟨cb, 2, none⟩ (.slice a2 ((without E e.name).length + 1) k2)).heap[cb]? := by
    rw [HW3.out]
    exact hgr4.block cb (show cb < w3.heap.size by omega) (by intro e; exact hC.ne1 (Option.some.inj e).symm)
  obtain ⟨f0, f1, f2, f3, g1, g2⟩ := cells_after hM.cache.c0 hM.cache.c1 hM.cache.c2 hM.cache.c3 hM.cache.f1 hM.cache.f2 hpk.1 hk4
  have hl : (without E e.name ++ [e]).length = (without E e.name).length + 1 := by simp
  have hnc : ∀ k, (Value.slice a2 ((without E e.name).length + 1) k2).ownBlock = some k → (Value.slice a1 (without E e.name).length k1).ownBlock = some k ∨ k = w1.heap.size + 1 := by
    intro k hk
    rcases HLOC2.out with hh | hh
    · exact Or.inl (hh ▸ hk)
    · rw [hh] at hk
      exact Or.inr (by simpa using (Option.some.inj hk).symm)
  have n2 : (Value.slice a2 ((without E e.name).length + 1) k2).ownBlock ≠ some cb := fun hk => by
    rcases hnc cb hk with hh | hh
    · exact hM.cache.ne2 hh
    · omega
  have n3 : (Value.slice a2 ((without E e.name).length + 1) k2).ownBlock ≠ some bm := fun hk => by
    rcases hnc bm hk with hh | hh
    · exact hM.cache.ne3 hh
    · have := hM.cache.bmz; omega
  have hE1 : (without E e.name).length ≤ E.length := List.length_filter_le _ _
  refine ⟨rfl, .slice a2 ((without E e.name).length + 1) k2, ⟨⟨f0, f1, f2, f3, g1, g2, ?_, ?_, hC.hcb, hC.hbm, hC.ne1, n2, n3, ?_, ?_, ?_, ?_, ?_⟩, ?_, ?_⟩⟩
  · rw [hl, show cellsOf (names (without E e.name ++ [e])) = cellsOf (names (without E e.name)) ++ [.string e.name] by simp [cellsOf, names]]
    have r3 := HOWN2.out.kept hst (Or.inr n2)
    have r4 : w3.drew.ownsRow _ _ _ _ _ _ := r3.drew
    exact r4.kept hgr4 (Or.inr n3)
  · refine ⟨_, hown4, fun y z => ?_, fun y => ?_⟩
    · rw [look_snoc _ _ (not_mem_without E e.name)]; exact atKey_put HOWN.out.isMap HAT.out e.datum e.name y z
    · rw [look_snoc _ _ (not_mem_without E e.name)]; exact has_put HOWN.out.isMap HHAS.out e.datum e.name y
  · rw [show names (without E e.name ++ [e]) = names (without E e.name) ++ [e.name] by simp [names], List.nodup_append]
    refine ⟨nodup_without hC.nodup _, by simp, fun a ha b hb => ?_⟩
    simp at hb
    subst hb
    exact fun hh => not_mem_without E _ (hh ▸ ha)
  · rw [hl]; omega
  · have := hC.hz; omega
  · have := hC.hcz; omega
  · intro f hf
    rcases List.mem_append.mp hf with hf | hf
    · exact hC.szs f (List.mem_filter.mp hf).1
    · simp at hf; rw [hf]; exact hx
  · intro k hk
    rcases hnc k hk with hh | hh
    · rcases hM.own k hh with h3 | h3
      · exact Or.inl h3
      · simp at h3; exact Or.inr (by omega)
    · exact Or.inr (by omega)
  · have s1 : Apart (Foot cb bm v) w w1 := (Apart.alloc _ w _).andThen hM.apart (fun _ _ h => h)
    have s2 : Apart (fun k => (Value.slice a1 (without E e.name).length k1).ownBlock = some k) w1 w2 := (Apart.alloc _ w1 _).andThen (Apart.of_grown HGR2.out) (fun _ _ h => h)
    have s3 : Apart (fun k => k = cb) w2 w3 := (Apart.of_grown hst).mono (fun k _ e => (Option.some.inj e).symm)
    have s4 : Apart (fun k => k = bm) w3 w4 := (Apart.of_grown (w := w3) ⟨hgr4.os, hgr4.tape, hgr4.output, hgr4.size, hgr4.block⟩).mono (fun k _ e => (Option.some.inj e).symm)
    refine ((s1.andThen s2 (fun k hk hh => ?_)).andThen s3 (fun k _ hh => Or.inl hh)).andThen s4 (fun k _ hh => Or.inr (Or.inl hh))
    rcases hM.own k hh with h3 | h3
    · exact Or.inr (Or.inr h3)
    · simp at h3; omega
end Go.Proofs.Ytabdjijlmiobhaa.G
