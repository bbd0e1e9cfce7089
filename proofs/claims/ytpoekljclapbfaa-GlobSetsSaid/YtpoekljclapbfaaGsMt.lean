/- wainwrightref03.match. -/
import Derived.Test.YtpoekljclapbfaaGsPcs
import Derived.OwnWalk
import Derived.Deep.RegionHeld3
import Derived.Deep.RegionLaw
namespace Go.Proofs.Ytpoekljclapbfaa.Gs
open Go.RowKit Go.Proofs.Ytpoekljclapbfaa.PR Go.Proofs.Ytpoekljclapbfaa.G Go.Proofs.Ytpoekljclapbfaa.P0 Go.Proofs.YtpoekljclapbfaaW.PrintWords Go.Proofs.YtpoekljclapbfaaW.PrintLast

/-! ### The pieces' row -/
theorem rowsOf_at : ∀ (ts : List Pc) (i j : Nat) (x : Pc), ts[i]? = some x → j < 258 → (rowsOf ts)[i * 258 + j]? = x.row[j]?
  | [], i, j, x, h, _ => by simp at h
  | t :: ts, 0, j, x, h, hj => by
    obtain rfl : t = x := by simpa using h
    show (t.row.toList ++ rowsOf ts)[0 * 258 + j]? = _
    rw [Nat.zero_mul, Nat.zero_add, List.getElem?_append_left (by rw [Array.length_toList, row_size]; exact hj)]
    simp
  | t :: ts, i + 1, j, x, h, hj => by
    show (t.row.toList ++ rowsOf ts)[(i + 1) * 258 + j]? = _
    rw [List.getElem?_append_right (by rw [Array.length_toList, row_size]; omega)]
    have e : (i + 1) * 258 + j - t.row.toList.length = i * 258 + j := by rw [Array.length_toList, row_size]; omega
    rw [e]
    exact rowsOf_at ts i j x (by simpa using h) hj
/-- A row of pieces, as the call is handed it. -/
structure PRow (w : World) (g cap : Nat) (ts : List Pc) : Prop where
  lt : g < w.heap.size
  cell : ∀ i j x u, ts[i]? = some x → x.row[j]? = some u → w.cell? ⟨g, i * 258 + j, none⟩ = some u
theorem PRow.kept {w wx : World} {g cap : Nat} {ts : List Pc} (h : PRow w g cap ts) (hb : Below w.heap.size w wx) : PRow wx g cap ts :=
  ⟨Nat.lt_of_lt_of_le h.lt hb.size, fun i j x u h1 h2 => (hb.cell (p := ⟨g, i * 258 + j, none⟩) h.lt).trans (h.cell i j x u h1 h2)⟩
theorem PRow.of_row {w : World} {base g cap : Nat} {ts : List Pc} (h : w.ownsRow base 45 258 (.slice (some ⟨g, 0, none⟩) ts.length cap) ts.length (rowsOf ts)) : PRow w g cap ts := by
  refine ⟨(h.lt g rfl).2, fun i j x u h1 h2 => ?_⟩
  have hj : j < 258 := by have := (Array.getElem?_eq_some_iff.1 h2).1; rwa [row_size] at this
  have := h.cells (g := g) rfl (i * 258 + j) u (by rw [rowsOf_at ts i j x h1 hj]; exact h2)
  have hadd : (⟨g, 0, none⟩ : Addr).add (i * 258 + j) = ⟨g, i * 258 + j, none⟩ := by unfold Addr.add; split <;> simp_all
  rwa [hadd] at this
theorem PRow.load {w : World} {g cap : Nat} {ts : List Pc} (h : PRow w g cap ts) (i : Nat) (x : Pc) (hx : ts[i]? = some x) : (loadVar 45 ⟨g, i * 258, none⟩).run Try.prog w = .ok (.agg x.row) w := by
  have hl : (loadCells ⟨g, i * 258, none⟩ x.row.toList.length).run Try.prog w = .ok x.row.toList.toArray w :=
    run_loadCells_list (P := Try.prog) w ⟨g, i * 258, none⟩ x.row.toList (fun j v hv => by
      have hadd : (⟨g, i * 258, none⟩ : Addr).add j = ⟨g, i * 258 + j, none⟩ := by unfold Addr.add; split <;> simp_all
      rw [hadd]
      exact h.cell i j x v hx (by simpa using hv))
  rw [Array.length_toList, row_size] at hl
  have hagg : (isAgg 45).run Try.prog w = .ok true w := by
    unfold isAgg
    rw [Sem.run_bind, run_underlying Try.underlying45 w]
    rfl
  cases hq : Try.prog.info? 45 with
  | none => have := t_zero.2; rw [hq] at this; cases this
  | some i =>
    have hs : i.size = 258 := by have h := t_zero.2; rw [hq] at h; simpa using h
    unfold loadVar
    rw [Sem.run_bind, hagg]
    simp only [Result.andThen, if_true]
    simp [sizeOf, typeInfo, hq, hs, hl, Result.andThen]
def Pc.kindR : Pc → Int
  | .lit _ => 0
  | .any => 1
  | .set _ => 2
  | .star => 3
theorem PRow.kind {w : World} {g cap : Nat} {ts : List Pc} (h : PRow w g cap ts) (i : Nat) (x : Pc) (hx : ts[i]? = some x) : w.cell? ⟨g, i * 258, none⟩ = some (.int .i64 x.kindR) := by
  have := h.cell i 0 x (.int .i64 x.kindR) hx (by cases x <;> simp [Pc.row, tRow, Pc.kindR])
  simpa using this
theorem fits_row (x : Pc) (hx : x.isStar = false) (c : UInt8) (w : World) :
    Calls Try.prog 28 #[.agg x.row, .int .u8 (c.toNat : Int)] w fun e w' => e = .returned (.bool (x.ok c)) ∧ Below w.heap.size w w' := by
  have key : ∀ (k b : Int) (f : Nat → Bool), x.row = tRow k b f → fitT k b f c = x.ok c → Calls Try.prog 28 #[.agg x.row, .int .u8 (c.toNat : Int)] w fun e w' => e = .returned (.bool (x.ok c)) ∧ Below w.heap.size w w' := fun k b f h1 h2 => by
    rw [h1, ← h2]; exact fits_calls k b f c w
  cases x with
  | star => cases hx
  | any => exact key _ _ _ rfl rfl
  | lit d =>
    refine key _ _ _ rfl ?_
    show ((d.toNat : Int) == (c.toNat : Int)) = (c == d)
    rw [Bool.eq_iff_iff]
    simp only [beq_iff_eq]
    constructor
    · intro h; exact (UInt8.toNat_inj.mp (by omega)).symm
    · rintro rfl; rfl
  | set t =>
    refine key _ _ _ rfl ?_
    show inF t (UInt8.ofNat c.toNat) = inF t c
    simp

theorem exec_load {P : Program} {o : Oper} {ρ : Operand → Value} {w : World} {t : TypeId} {x : Operand} {ad : Addr} {v : Value} (ho : o.op = .load t x) (hx : ρ x = .pointer (some ad)) (h : (loadVar t ad).run P w = .ok v w) : (execOp ρ o).run P w = .ok (.value v) w := by
  unfold execOp
  rw [ho]
  simp only [hx, Instr.loadAt, Instr.sureAddr, Sem.run_bind, Sem.run_pure, Result.andThen, h]
/-! ### Rows of bools -/
def bools (N : Nat) (f : Nat → Bool) : Array Value := ((List.range (N + 1)).map (fun k => Value.bool (f k))).toArray
theorem bools_size (N : Nat) (f : Nat → Bool) : (bools N f).size = N + 1 := by simp [bools]
theorem bools_at (N : Nat) (f : Nat → Bool) (k : Nat) (h : k ≤ N) : (bools N f)[k]? = some (.bool (f k)) := by
  simp [bools, show k < N + 1 by omega]
theorem bools_set (N : Nat) (f : Nat → Bool) (k : Nat) (v : Bool) : (bools N f).setIfInBounds k (.bool v) = bools N (fun n => if n = k then v else f n) := by
  apply Array.ext_getElem?
  intro n
  rw [Array.getElem?_setIfInBounds]
  by_cases hn : n < N + 1
  · by_cases hk : k = n
    · subst hk; simp [bools, hn]
    · have : ¬ n = k := fun e => hk e.symm
      simp [bools, hn, hk, this]
  · by_cases hk : k = n
    · subst hk; simp [bools, hn]
    · simp [bools, hn, hk]
theorem bools_congr {N : Nat} {f g : Nat → Bool} (h : ∀ k, k ≤ N → f k = g k) : bools N f = bools N g := by
  unfold bools
  congr 1
  exact List.map_congr_left (fun k hk => by rw [h k (by have := List.mem_range.mp hk; omega)])
theorem made_bools (N : Nat) : madeCells (Value.bool false).cells ((N + 1) * 1) = bools N (fun _ => false) := by
  apply Array.ext_getElem?
  intro n
  by_cases hn : n < N + 1
  · simp [madeCells, bools, hn, Value.cells, Nat.mod_one]
  · simp [madeCells, bools, hn, Value.cells]
theorem b_i : ∃ i, Try.prog.info? 4 = some i ∧ i.size = 1 ∧ i.bytes = 1 ∧ i.zero = some (.bool false) := by
  have h : (Try.prog.info? 4).map (fun i => (i.size, i.bytes, i.zero)) = some (1, 1, some (.bool false)) := by kernel_rfl
  cases hq : Try.prog.info? 4 with
  | none => rw [hq] at h; cases h
  | some i =>
    rw [hq] at h
    have h := Option.some.inj h
    exact ⟨i, rfl, (Prod.mk.inj h).1, (Prod.mk.inj (Prod.mk.inj h).2).1, (Prod.mk.inj (Prod.mk.inj h).2).2⟩
theorem wpList_mk {ops : Array Oper} {rest : List Oper} {o : Oper} {a : Act} {w : World} {Q : Exit → Act → World → Prop} (hgd : o.guard = none) (x : Operand) (ho : o.op = .makeSlice 59 x x) (N : Nat) (hx : a.eval x = .int .i64 ((N : Int) + 1)) (hN : N < 1099511)
    (h : ∀ w', w'.heap[w.heap.size]? = some (.cells (bools N (fun _ => false)) 4 (0, 0)) → Below w.heap.size w w' → w.heap.size < w'.heap.size → wpList Try.prog ops Q rest (a.put o.dst (.slice (some ⟨w.heap.size, 0, none⟩) (N + 1) (N + 1))) w') : wpList Try.prog ops Q (o :: rest) a w := by
  obtain ⟨i, hi, hsz, hby, hz⟩ := b_i
  refine wpList_make_full w hgd x x 59 ho w.heap.size 4 i (.bool false) 1 Try.underlying59 hi hz hsz .i64 .i64 _ _ (N + 1) hx hx (by omega) (by omega) (by rw [hby]; omega) (by unfold maxLen; omega) (Nat.le_refl _) ?_
  intro w' hown hgr
  rw [made_bools] at hown
  refine h w' ?_ ⟨hgr.os, hgr.tape, hgr.output, hgr.size, fun b hb => hgr.block b hb (by simp)⟩ (hown.lt _ rfl).2
  obtain ⟨_, h2⟩ := hown
  rcases h2 with ⟨h3, _⟩ | ⟨g, cap, cur, h3, _, h4, _, _, h5, h6⟩
  · cases h3
  · injection h3 with h7 h8 h9
    injection h7 with h7
    injection h7 with h7
    subst h7 h9
    rw [h4]
    have e : cur = bools N (fun _ => false) := by
      apply Array.toList_inj.mp
      rw [← h6, List.take_of_length_le (by rw [Array.length_toList, h5]; exact Nat.le_refl _)]
    rw [e]
/-- The table's row under way. -/
structure MtR (w wx : World) (N g : Nat) (f : Nat → Bool) : Prop where
  hat : wx.heap[w.heap.size]? = some (.cells #[.slice (some ⟨g, 0, none⟩) (N + 1) (N + 1), .slice none 0 0] 60 (0, 0))
  hg : wx.heap[g]? = some (.cells (bools N f) 4 (0, 0))
  lt : w.heap.size < g
  hb : Below w.heap.size w wx
/-- The next row under way, too. -/
structure MtI (w wx : World) (N g g2 : Nat) (f f2 : Nat → Bool) : Prop where
  r : MtR w wx N g f
  hg2 : wx.heap[g2]? = some (.cells (bools N f2) 4 (0, 0))
  lt : g < g2
theorem bool_cell {w : World} {g N : Nat} {f : Nat → Bool} {t : TypeId} (h : w.heap[g]? = some (.cells (bools N f) t (0, 0))) (k : Nat) (hk : k ≤ N) : w.cell? ⟨g, k, none⟩ = some (.bool (f k)) := by
  rw [cell_of_block h]; exact bools_at N f k hk
theorem MtR.kept {w wx wy : World} {N g : Nat} {f : Nat → Bool} (h : MtR w wx N g f) (hb : Below wx.heap.size wx wy) : MtR w wy N g f :=
  ⟨(hb.block _ (Array.getElem?_eq_some_iff.1 h.hat).1).trans h.hat, (hb.block _ (Array.getElem?_eq_some_iff.1 h.hg).1).trans h.hg, h.lt, h.hb.trans (hb.mono h.hb.size)⟩
theorem MtI.kept {w wx wy : World} {N g g2 : Nat} {f f2 : Nat → Bool} (h : MtI w wx N g g2 f f2) (hb : Below wx.heap.size wx wy) : MtI w wy N g g2 f f2 :=
  ⟨h.r.kept hb, (hb.block _ (Array.getElem?_eq_some_iff.1 h.hg2).1).trans h.hg2, h.lt⟩
theorem MtI.put {w wx : World} {N g g2 : Nat} {f f2 : Nat → Bool} (h : MtI w wx N g g2 f f2) (k : Nat) (v : Bool) : MtI w (wx.setCell ⟨g2, k, none⟩ (.bool v)) N g g2 f (fun n => if n = k then v else f2 n) := by
  have h1 := h.r.lt
  have h2 := h.lt
  refine ⟨⟨blk_far h.r.hat (by show w.heap.size ≠ g2; omega) _, blk_far h.r.hg (by show g ≠ g2; omega) _, h1, h.r.hb.setCell (by show w.heap.size ≤ g2; omega) _⟩, ?_, h2⟩
  have := blk_set h.hg2 k (.bool v)
  rw [bools_set] at this
  exact this
theorem MtI.congr {w wx : World} {N g g2 : Nat} {f f2 f3 : Nat → Bool} (h : MtI w wx N g g2 f f2) (he : ∀ k, k ≤ N → f2 k = f3 k) : MtI w wx N g g2 f f3 := ⟨h.r, by rw [← bools_congr he]; exact h.hg2, h.lt⟩
/-- The next row becomes the row. -/
theorem MtI.next {w wx : World} {N g g2 : Nat} {f f2 : Nat → Bool} (h : MtI w wx N g g2 f f2) : MtR w (wx.setCell ⟨w.heap.size, 0, none⟩ (.slice (some ⟨g2, 0, none⟩) (N + 1) (N + 1))) N g2 f2 := by
  have h1 := h.r.lt
  have h2 := h.lt
  refine ⟨?_, blk_far h.hg2 (by show g2 ≠ w.heap.size; omega) _, by omega, h.r.hb.setCell (Nat.le_refl _) _⟩
  have := blk_set h.r.hat 0 (.slice (some ⟨g2, 0, none⟩) (N + 1) (N + 1))
  simpa using this

theorem MtR.start {w w1 : World} {N : Nat} (hb : Below (w.heap.size + 1) (w.alloc (.cells #[.slice none 0 0, .slice none 0 0] 60)) w1) (hg : w1.heap[w.heap.size + 1]? = some (.cells (bools N (fun _ => false)) 4 (0, 0))) :
    MtR w ((w1.setCell ⟨w.heap.size, 0, none⟩ (.slice (some ⟨w.heap.size + 1, 0, none⟩) (N + 1) (N + 1))).setCell ⟨w.heap.size + 1, 0, none⟩ (.bool true)) N (w.heap.size + 1) (fun k => decide (k = 0)) := by
  have h0 := (hb.block w.heap.size (by omega)).trans (heap_alloc_last w _)
  have h1 := blk_set h0 0 (.slice (some ⟨w.heap.size + 1, 0, none⟩) (N + 1) (N + 1))
  have h2 := blk_far hg (p := ⟨w.heap.size, 0, none⟩) (by show w.heap.size + 1 ≠ w.heap.size; omega) (.slice (some ⟨w.heap.size + 1, 0, none⟩) (N + 1) (N + 1))
  have h3 := blk_set h2 0 (.bool true)
  have h4 := blk_far h1 (p := ⟨w.heap.size + 1, 0, none⟩) (by show w.heap.size ≠ w.heap.size + 1; omega) (.bool true)
  refine ⟨by simpa using h4, ?_, by omega, ?_⟩
  · rw [h3, bools_set]
    have : (fun n => if n = 0 then true else (fun _ : Nat => false) n) = (fun k => decide (k = 0)) := by funext k; by_cases hk : k = 0 <;> simp [hk]
    rw [this]
  · exact (((Below.refl _ w).alloc (Nat.le_refl _) _).trans (hb.mono (by omega))).setCell (Nat.le_refl _) _ |>.setCell (by show w.heap.size ≤ w.heap.size + 1; omega) _

/-! ### The table, plain -/
def tab (ts : List Pc) (s : List UInt8) (i k : Nat) : Bool := mat (ts.take i) (s.take k)
/-- The row behind a star: what is found so far. -/
def anyT (ts : List Pc) (s : List UInt8) (i : Nat) : Nat → Bool
  | 0 => false
  | k + 1 => tab ts s (i + 1) k
theorem take_snoc {α : Type} (l : List α) (i : Nat) (x : α) (h : l[i]? = some x) : l.take (i + 1) = l.take i ++ [x] := by
  obtain ⟨hi, he⟩ := List.getElem?_eq_some_iff.mp h
  rw [List.take_succ_eq_append_getElem hi, he]
theorem tab_star (ts : List Pc) (s : List UInt8) (i k : Nat) (h : ts[i]? = some .star) (hk : k ≤ s.length) : tab ts s (i + 1) k = (anyT ts s i k || tab ts s i k) := by
  unfold tab
  rw [take_snoc ts i _ h]
  cases k with
  | zero => rw [List.take_zero, mat_star_nil]; rfl
  | succ k =>
    obtain ⟨b, hb⟩ : ∃ b, s[k]? = some b := ⟨_, List.getElem?_eq_getElem (by omega)⟩
    rw [take_snoc s k b hb, mat_star]
    show _ = (tab ts s (i + 1) k || _)
    unfold tab
    rw [take_snoc ts i _ h]
theorem tab_zero (ts : List Pc) (s : List UInt8) (i : Nat) (x : Pc) (h : ts[i]? = some x) (hx : x.isStar = false) : tab ts s (i + 1) 0 = false := by
  unfold tab
  rw [take_snoc ts i _ h, List.take_zero, mat_nil hx]
theorem tab_one (ts : List Pc) (s : List UInt8) (i k : Nat) (x : Pc) (b : UInt8) (h : ts[i]? = some x) (hx : x.isStar = false) (hb : s[k]? = some b) : tab ts s (i + 1) (k + 1) = (tab ts s i k && x.ok b) := by
  unfold tab
  rw [take_snoc ts i _ h, take_snoc s k b hb, mat_snoc hx]
theorem tab_none (ts : List Pc) (s : List UInt8) (k : Nat) (hk : k ≤ s.length) : tab ts s 0 k = decide (k = 0) := by
  unfold tab
  rw [List.take_zero]
  cases k with
  | zero => rfl
  | succ k =>
    cases s with
    | nil => simp at hk
    | cons c s => simp [mat]
end Go.Proofs.Ytpoekljclapbfaa.Gs
