/- store.All walked: the ground's variables, rising. -/
import Derived.Test.YtjmaficiinhjpaaDoorStoMet
import Derived.Shelf.SlSortCmp.NoneTotal
namespace Go.Proofs.YtjmaficiinhjpaaDoor.G
open Go.RowKit Go.Maps Go.WideMaps Go.Sort Go.Shelf

theorem varsV_len (L : List Vr) : (varsV L).length = L.length * 4 := by
  induction L with
  | nil => rfl
  | cons f F ih =>
    show (f.cells ++ varsV F).length = _
    rw [List.length_append, ih]; simp [Vr.cells]; omega
theorem varsV_at : ∀ (L : List Vr) (j : Nat) (v : Vr), L[j]? = some v → ∀ c, c < 4 → (varsV L)[j * 4 + c]? = v.cells[c]?
  | [], j, f, h, _, _ => by simp at h
  | g :: F, 0, f, h, c, hc => by
    have : g = f := by simpa using h
    subst this
    show (g.cells ++ varsV F)[0 * 4 + c]? = _
    rw [Nat.zero_mul, Nat.zero_add, List.getElem?_append_left (by simpa [Vr.cells] using hc)]
  | g :: F, j + 1, f, h, c, hc => by
    have h1 := varsV_at F j f (by simpa using h) c hc
    show (g.cells ++ varsV F)[(j + 1) * 4 + c]? = _
    rw [List.getElem?_append_right (by simp [Vr.cells]; omega), ← h1]; congr 1; simp [Vr.cells]; omega
theorem Vr.cells_one (v : Vr) : ∀ u ∈ v.cells, u.oneCell' = true := by
  intro u hu
  simp only [Vr.cells, List.mem_cons, List.not_mem_nil, or_false] at hu
  rcases hu with rfl | rfl | rfl | rfl <;> rfl
theorem cells_new (w : World) (C : List Value) (t : TypeId) : ∀ (j : Nat) (u : Value), C[j]? = some u → (w.alloc (.cells C.toArray t)).cell? ((⟨w.heap.size, 0, none⟩ : Addr).add j) = some u := by
  intro j u hu
  have e : (⟨w.heap.size, 0, none⟩ : Addr).add j = ⟨w.heap.size, j, none⟩ := by
    unfold Addr.add
    split
    · rename_i h0; rw [h0]
    · simp
  rw [e, cell_of_block (heap_alloc_new w _)]
  simpa using hu
/-- A row of variables that one slice owns: as the sort wants it. -/
theorem holdsK_of_row {w : World} {g : Nat} {cur : Array Value} {e : TypeId} {L : List Vr} (hb : w.heap[g]? = some (.cells cur e (0, 0))) (ht : cur.toList.take (L.length * 4) = varsV L) : HoldsK Vr.cells 4 w g 0 L.toArray := by
  intro j hj
  rw [size_flatK] at hj
  have hj' : j < L.length * 4 := by simpa using hj
  refine ⟨?_, by simp [World.frozen?, hb]⟩
  have h1 : (cur.toList.take (L.length * 4))[j]? = (varsV L)[j]? := by rw [ht]
  rw [List.getElem?_take_of_lt hj'] at h1
  have hq : j / 4 < L.length := by omega
  have h2 := varsV_at L (j / 4) L[j / 4] (List.getElem?_eq_getElem hq) (j % 4) (by omega)
  rw [show j / 4 * 4 + j % 4 = j by omega] at h2
  rw [h2] at h1
  simp only [World.cell?, hb, Nat.zero_add]
  rw [get_flatK _ _ _ _ hj]
  have h3 : (L.toArray[j / 4]! : Vr) = L[j / 4] := by simp [hq]
  rw [h3]
  rw [← Array.getElem?_toList, h1]
  have h4 : j % 4 < L[j / 4].cells.length := by simp [Vr.cells]; omega
  have h5 : (L[j / 4].cells)[j % 4]! = L[j / 4].cells[j % 4] := by simp [h4]
  rw [List.getElem?_eq_getElem h4, h5]
  rfl
theorem varsAt_of_holds {w : World} {g : Nat} {G : List Vr} (hz : g < w.heap.size) (h : HoldsK Vr.cells 4 w g 0 G.toArray) : VarsAt w (some ⟨g, 0, none⟩) G := by
  intro _
  refine ⟨g, 0, rfl, hz, fun j v hj => ?_⟩
  obtain ⟨hl, he⟩ := List.getElem?_eq_some_iff.mp hj
  have hc : ∀ c, c < 4 → w.cell? ⟨g, 0 + j * 4 + c, none⟩ = some (v.cells)[c]! := fun c hc => by
    have := (h.cell (i := j) (c := c) (by simpa using hl) hc).1
    have h3 : (G.toArray[j]! : Vr) = v := by simp [hl, he]
    rwa [h3] at this
  exact ⟨hc 0 (by omega), hc 1 (by omega), hc 2 (by omega), hc 3 (by omega)⟩
theorem Met.len {G : List Vr} {left : Lit → Bool} {L : List Vr} (h : Met G left L) : L.length ≤ G.length := by
  have nd : L.Nodup := by
    have hh := h.nodup
    unfold List.Nodup at hh ⊢
    rw [List.pairwise_map] at hh
    exact hh.imp (fun {a b} hab e => hab (by rw [e]))
  exact nd.length_le_of_subset (fun v hv => (look_mem ((h.mem v).1 hv).1).1)

/-- What All answers. -/
def AllR (w w' : World) (G : List Vr) (e : Ending) : Prop := ∃ A c, e = .returned (.slice A G.length c) ∧ VarsAt w' A G ∧ Below w.heap.size w w'
theorem sort_none (p : Option Addr) (cap : Nat) (w : World) :
    Calls Tryd.prog 32 #[.slice p 0 cap, .func (.func 33) #[] #[]] w fun e w' => e = .returned (.tuple #[]) ∧ w' = w := by
  have h := AnyF.slices_SortFunc_none Tryd.sortFn p cap (.func (.func 33) #[] #[]) w
  exact h
theorem grownBy_sortK {w : World} {g n : Nat} {os : Array Obj} (d : Array Vr) : w.grownBy (sortWorldK Vr.cells 4 w g 0 n d os) (some g) := by
  refine ⟨rfl, rfl, rfl, size_sortWorldK_c _ _ _ _ _ _ _ _, fun k hk hne => ?_⟩
  unfold sortWorldK
  rw [heap_grow_old _ _ (by rw [size_putRowK]; exact hk)]
  have : g ≠ k := fun e => hne (by rw [e])
  simp [putRowK, putRow, mapBlock, Sort.ahead, Array.getElem?_modify, this]

set_option maxHeartbeats 4000000 in
set_option maxRecDepth 100000 in
theorem All.calls {base : Nat} {w : World} {sb n : Nat} {G : List Vr} {F : List Fr} {turns : Int} {gm : Nat} {fv : Value} (h : StoreV base w sb n G F turns gm fv) (hG : G.length ≤ 100000) :
    Calls Tryd.prog 22 #[.pointer (some ⟨sb, 0, none⟩)] w (fun e w' => AllR w w' G e) := by
  obtain ⟨i0, hi, hz0, hz1, hz2⟩ := info_parts info_var
  have c0 := h.c0
  obtain ⟨D, hown, hat, hhas⟩ := h.mp
  have hbl := h.mp.lt
  have HR := Lib.hid h.rises
  have HAT := Lib.hid hat
  have HHAS := Lib.hid hhas
  have HOWN := Lib.hid hown
  clear h hat hhas hown
  go_enter Tryd.func22, Tryd.ntmps22
  go_wp2_with (first
    | (at_range; refine wpList_range_own _ rfl _ 51 rfl 9 27 str_law Tryd.underlying51 varR gm n D rfl HOWN.out ?_; intro w2 hrg0 hg0 hs0))
  clear hs0
  go_frame
  go_loopw [3] (fun v wr => ∃ (left : Lit → Bool) (cnt : Nat) (L : List Vr), wr.ranges Tryd.prog 9 varR gm w.heap.size n D left cnt ∧
      Hid (wr.ownsRow w.heap.size 27 4 v L.length (varsV L)) ∧ Hid (Met G left L) ∧ Hid (Below w.heap.size w wr) ∧ Hid (w.heap.size ≤ wr.heap.size))
    (fun _ wr => wr.rangeLeft gm w.heap.size)
  case atStart =>
    exact ⟨_, _, [], hrg0, Lib.hid (World.ownsRow_nil _ _ _ _), Lib.hid (Met.start HHAS.out), Lib.hid ((Below.refl _ _).grown hg0 (Nat.le_refl _) (fun j hj => by cases hj)), Lib.hid hg0.size⟩
  case round =>
    obtain ⟨left, cnt, L, hrg, HROW, HC, HNX, HSZ⟩ := hrel
    go_wp2_with (at_next; refine wpList_next_ranges _ rfl _ rfl 9 str_law varR encStr Vr.cell (fun key kl hk => by obtain ⟨x, hx, _⟩ := Maps.keyOf_str Tryd.underlying9 hk; exact ⟨x, hx⟩) var_shape gm w.heap.size n _ _ _ rfl hrg ?_ ?_)
    · intro hc0 hl0
      have hp := HC.out.ends HR.out hl0
      have hlen : L.length = G.length := hp.length_eq
      by_cases hne : L = []
      · subst hne
        have hG0 : G = [] := List.length_eq_zero_iff.mp hlen.symm
        subst hG0
        obtain ⟨A, c, rfl⟩ : ∃ A c, u3 = .slice A 0 c := by
          rcases HROW.out.2 with ⟨rfl, _⟩ | ⟨g, cap, cur, rfl, _⟩ <;> exact ⟨_, _, rfl⟩
        clear hp hlen hc0 hl0
        go_wp2_with (go_at_call 32; with_reducible refine (sort_none _ _ _).mono ?_; rintro e w' ⟨rfl, rfl⟩)
        go_ret
        exact ⟨A, c, rfl, fun h => absurd h (by simp), HNX.out⟩
      · have hpos : 0 < L.length := List.length_pos_iff.mpr hne
        rcases HROW.out.2 with ⟨_, h0⟩ | ⟨g, cap, cur, rfl, hbase, hb, h1, h2, h3, h4⟩
        · omega
        have hH : HoldsK Vr.cells 4 wr g 0 L.toArray := holdsK_of_row hb h4
        have hgl : g < wr.heap.size := (Array.getElem?_eq_some_iff.1 hb).1
        have hll := HC.out.len
        have hc := sort_calls g cap L.toArray wr hH hgl (by simp; omega) G HR.out hp
        rw [List.size_toArray] at hc
        have HH := Lib.hid hH
        have HCALL := Lib.hid hc
        have HGL := Lib.hid hgl
        have HBASE := Lib.hid hbase
        have HLEN := Lib.hid hlen
        clear hp hH h4 hb h3 hlen hc h1 h2 hbase hl0 hc0 hgl
        go_wp2_with (go_at_call 32; with_reducible refine HCALL.out.mono ?_; rintro e w' ⟨rfl, nn, os, rfl⟩; obtain ⟨w5, hw5⟩ : ∃ w5, w5 = sortWorldK Vr.cells 4 wr g 0 nn G.toArray os := ⟨_, rfl⟩; have H5 := Lib.hid hw5; rw [← hw5]; clear hw5)
        go_ret
        refine ⟨some ⟨g, 0, none⟩, cap, by rw [HLEN.out]; rfl, ?_, ?_⟩
        · rw [H5.out]
          exact varsAt_of_holds (Nat.lt_of_lt_of_le HGL.out (size_sortWorldK_c _ _ _ _ _ _ _ _)) (holdsK_sortWorldK_c _ _ _ _ _ L.toArray G.toArray nn os HH.out HGL.out (by simp [HLEN.out]))
        · rw [H5.out]
          exact HNX.out.grown (grownBy_sortK _) HNX.out.size (fun j hj => by cases hj; exact HBASE.out)
    · intro x c kl yd yp w3 cnt2 hkey hlk hv hat hrg2 hlt hg2 hs2 hen
      obtain ⟨x', ex, rfl, _⟩ := Maps.keyOf_str Tryd.underlying9 hkey
      obtain rfl : x = x' := encStr_inj ex
      have hle := HC.out.len
      have hlook : lookL G ⟨x.toArray⟩ = some c := met_look (fun x z => HAT.out x z) (x := ⟨x.toArray⟩) (fun zd => by
        rw [varR_mk] at hv
        have := hat zd
        have h2 : yd = c.datum := by have := congrArg (fun o => o.map Prod.fst) hv; simpa using this.symm
        rw [h2] at this
        simpa [keyL] using this)
      have HC2 := Lib.hid (HC.out.step (x := ⟨x.toArray⟩) (by simpa [keyL] using hlk) hlook)
      have HROW2 := Lib.hid (HROW.out.kept hg2 (Or.inr (row_ne_iter HROW.out hrg).symm))
      have HS3 : Hid (w.heap.size ≤ w3.heap.size) := Lib.hid (Nat.le_trans HSZ.out hg2.size)
      have HNX2 := Lib.hid (HNX.out.grown hg2 HNX.out.size (fun j hj => by cases hj; exact Nat.le_refl _))
      have HLT := Lib.hid hlt
      clear hs2 hlk hat hlt hkey ex hv hlook
      simp only [keyL] at HC2
      unfold Vr.cell at hen
      unfold Vr.cell
      go_wp2_with (at_builtin; refine wpList_append_own _ rfl _ _ 28 rfl w.heap.size 27 i0 (.agg #[.string ⟨#[]⟩, .string ⟨#[]⟩, .int .i64 0, .int .i64 0]) 4 48 Tryd.underlying28 hi hz0 hz1 hz2 rfl (by decide) _ _ _ rfl ((HROW2.out.alloc _).alloc _) ⟨w3.heap.size + 1, 0, none⟩ 1 1 c.cells rfl rfl (by have := cells_new (w3.alloc (.cells c.cells.toArray 27)) c.cells 27; simpa [Vr.cells] using this) (Vr.cells_one c) (by unfold maxLen; omega) (by omega) (by have := HS3.out; simp; omega) ?_; intro v' w4 hown' hg3 hnil3; have HOWN := Lib.hid hown'; have HG3 := Lib.hid hg3; clear hown' hg3 hnil3)
      have hrg3 := ((hrg2.alloc _).alloc _).kept HG3.out (row_ne_low HROW2.out hbl) (row_ne_iter HROW2.out hrg2)
      go_roundw
      case rel =>
        refine ⟨_, cnt2, L ++ [c], hrg3, Lib.hid (by rw [varsV_snoc, List.length_append]; exact HOWN.out), HC2, Lib.hid ?_, Lib.hid ?_⟩
        · exact ((HNX2.out.alloc HNX2.out.size _).alloc (by have := HNX2.out.size; simp; omega) _).grown HG3.out (by have := HNX2.out.size; simp; omega) (fun j hj => (HROW2.out.lt j hj).1)
        · have h5 := HG3.out.size
          have h6 := HS3.out
          simp at h5
          omega
      case measure => rw [hrg3.left_eq, hrg.left_eq]; exact HLT.out
end Go.Proofs.YtjmaficiinhjpaaDoor.G
