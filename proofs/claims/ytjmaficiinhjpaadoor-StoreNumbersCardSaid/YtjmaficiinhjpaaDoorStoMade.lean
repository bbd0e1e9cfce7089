/- store: a frame made of variables: the walk of made. -/
import Derived.Test.YtjmaficiinhjpaaDoorStoDef
namespace Go.Proofs.YtjmaficiinhjpaaDoor.G
open Go.RowKit Go.Maps Go.Sort Go.WideMaps

/-- Variables that are read at this address. -/
def VarsAt (w : World) (A : Option Addr) (l : List Vr) : Prop :=
  0 < l.length → ∃ b off, A = some ⟨b, off, none⟩ ∧ b < w.heap.size ∧ ∀ j v, l[j]? = some v →
    w.cell? ⟨b, off + j * 4, none⟩ = some (.string v.name) ∧ w.cell? ⟨b, off + j * 4 + 1, none⟩ = some (.string v.val) ∧ w.cell? ⟨b, off + j * 4 + 2, none⟩ = some (.int .i64 v.fl) ∧ w.cell? ⟨b, off + j * 4 + 3, none⟩ = some (.int .i64 v.og)
theorem VarsAt.below {w w' : World} {A : Option Addr} {l : List Vr} (h : VarsAt w A l) (hb : Below w.heap.size w w') : VarsAt w' A l := by
  intro hp
  obtain ⟨b, off, rfl, hz, hc⟩ := h hp
  refine ⟨b, off, rfl, Nat.lt_of_lt_of_le hz hb.size, fun j v hj => ?_⟩
  obtain ⟨h0, h1, h2, h3⟩ := hc j v hj
  exact ⟨(hb.cell (by exact hz)).trans h0, (hb.cell (by exact hz)).trans h1, (hb.cell (by exact hz)).trans h2, (hb.cell (by exact hz)).trans h3⟩
def Names (l : List Vr) : Prop := ∀ v ∈ l, v.name.size ≤ maxLen
theorem cell_of_block {w : World} {b j : Nat} {C : Array Value} {t : TypeId} (h : w.heap[b]? = some (.cells C t (0, 0))) : w.cell? ⟨b, j, none⟩ = C[j]? := by
  simp [World.cell?, h]
theorem frozen_of_block {w : World} {b j : Nat} {C : Array Value} {t : TypeId} (h : w.heap[b]? = some (.cells C t (0, 0))) : w.frozen? ⟨b, j, none⟩ = false := by
  simp [World.frozen?, h]
theorem lt_heap {w : World} {b : Nat} {o : Obj} (h : w.heap[b]? = some o) : b < w.heap.size := (Array.getElem?_eq_some_iff.mp h).1
theorem far_after {w1 w2 : World} {o : Obj} {row : Option Nat} {b : Nat} (hg : (w1.alloc o).grownBy w2 row) (hb : b < w1.heap.size) (hn : row ≠ some b) : w2.heap[b]? = w1.heap[b]? :=
  (hg.block b (by simp; omega) (fun e => hn e.symm)).trans (Below.heap_alloc w1 o b hb)
theorem StrMap.kept {w w' : World} {b n : Nat} {g : ByteArray → Option (DataW Unit)} (h : StrMap w b n g) (hk : w'.heap[b]? = w.heap[b]?) : StrMap w' b n g := by
  obtain ⟨D, ⟨es, clock, hb, hh⟩, h2⟩ := h
  exact ⟨D, ⟨es, clock, hk.trans hb, hh⟩, h2⟩
theorem StrMap.lt {w : World} {b n : Nat} {g : ByteArray → Option (DataW Unit)} (h : StrMap w b n g) : b < w.heap.size := by
  obtain ⟨D, hown, _⟩ := h
  exact hown.lt
theorem take_at {l : List Vr} {k : Nat} {v : Vr} (h : l[k]? = some v) : l.take (k + 1) = l.take k ++ [v] := by
  obtain ⟨hk, he⟩ := List.getElem?_eq_some_iff.mp h
  rw [List.take_succ_eq_append_getElem hk, he]

set_option maxHeartbeats 4000000 in
set_option maxRecDepth 100000 in
theorem made_calls (l : List Vr) (A : Option Addr) (c : Nat) (call : Bool) (w : World) (hL : VarsAt w A l) (hl : l.length ≤ 1000000) (hn : Names l) :
    Calls Tryd.prog 23 #[.slice A l.length c, .bool call] w fun e w' => ∃ b, e = .returned (.agg #[.map (some b), .bool call]) ∧ StrMap w' b l.length (lookD l) ∧ w.heap.size ≤ b ∧ Below w.heap.size w w' := by
  have hmm := @run_makeMap Tryd.prog
  have HL := Lib.hid hL
  have HN := Lib.hid hn
  clear hL hn
  go_enter Tryd.func23, Tryd.ntmps23
  go_wp2
  go_loopw [13] (fun i wr => ∃ k : Nat, k ≤ l.length ∧ i = .int .i64 k ∧ Hid (wr.heap[w.heap.size]? = some (.cells #[.map none, .bool false] 53 (0, 0))) ∧ Hid (wr.heap[w.heap.size + 2]? = some (.cells #[.map (some (w.heap.size + 1)), .bool call] 53 (0, 0))) ∧ Hid (StrMap wr (w.heap.size + 1) k (lookD (l.take k))) ∧ Hid (Below w.heap.size w wr)) (fun i _ => l.length - (intOf i).toNat)
  case atStart =>
    refine ⟨0, Nat.zero_le _, rfl, Lib.hid ?_, Lib.hid ?_, Lib.hid ?_, Lib.hid ((((Below.refl _ _).alloc (Nat.le_refl _) _).alloc (by simp) _).alloc (by simp; omega) _)⟩
    · rw [Below.heap_alloc _ _ _ (by simp; omega), Below.heap_alloc _ _ _ (by simp), heap_alloc_new]
    · have := heap_alloc_new ((w.alloc (Obj.cells #[Value.map none, Value.bool false] 53)).alloc (Obj.map #[] 0)) (Obj.cells #[Value.map (some (w.heap.size + 1)), Value.bool call] 53)
      simpa using this
    · have := World.ownsMap_made (w.alloc (Obj.cells #[Value.map none, Value.bool false] 53)) Tryd.prog 9 varR
      exact ⟨.map [], by simpa using this.alloc _, fun x z => rfl, fun x => rfl⟩
  case round =>
    obtain ⟨k, hk, rfl, H0, H2, HM, HB⟩ := hrel
    by_cases hlt : k < l.length
    · obtain ⟨v, hv⟩ : ∃ v, l[k]? = some v := ⟨_, List.getElem?_eq_getElem hlt⟩
      obtain ⟨bL, off, rfl, hzL, hc⟩ := HL.out (by omega)
      obtain ⟨h0, h1, h2, h3⟩ := hc k v hv
      have e0 := (HB.out.cell (p := ⟨bL, off + k * 4, none⟩) (by exact hzL)).trans h0
      have e1 := (HB.out.cell (p := ⟨bL, off + k * 4 + 1, none⟩) (by exact hzL)).trans h1
      have e2 := (HB.out.cell (p := ⟨bL, off + k * 4 + 2, none⟩) (by exact hzL)).trans h2
      have e3 := (HB.out.cell (p := ⟨bL, off + k * 4 + 3, none⟩) (by exact hzL)).trans h3
      have c0 := cell_of_block (j := 0) H2.out
      simp only [List.getElem?_toArray, List.getElem?_cons_zero] at c0
      have hz2 := lt_heap H2.out
      have hkey := key_mk v.name (HN.out v (List.mem_of_getElem? hv))
      have hnk : k < maxLen := by unfold maxLen; omega
      have HTK := Lib.hid (take_at hv)
      obtain ⟨D, hown, hat, hhas⟩ := HM.out
      have HOWN := Lib.hid hown
      have HAT := Lib.hid hat
      have HHAS := Lib.hid hhas
      clear hv hc h0 h1 h2 h3 hown hat hhas HM
      go_wp2_with (first
        | (at_mapUpdate; refine wpList_mapUpdate_own _ rfl _ _ _ 51 rfl 9 27 str_law Tryd.underlying51 varR (w.heap.size + 1) k D rfl (HOWN.out.alloc _) hnk _ _ _ rfl rfl hkey _ [] (varR_mk v) ?_; intro w4 hown4 hgr4)
        | go_in)
      go_roundw
      case rel =>
        have hz4 := hgr4.size
        refine ⟨k + 1, by omega, by go_num, Lib.hid ((far_after hgr4 (by omega) (by simp)).trans H0.out), Lib.hid ((far_after hgr4 hz2 (by simp)).trans H2.out), Lib.hid ⟨_, hown4, fun y z => ?_, fun y => ?_⟩, Lib.hid ((HB.out.alloc HB.out.size _).grown hgr4 (by have := HB.out.size; simp; omega) (fun j hj => by cases hj; omega))⟩
        · rw [HTK.out, lookD_snoc]; exact atKey_put HOWN.out.isMap HAT.out v.datum v.name y z
        · rw [HTK.out, lookD_snoc]; exact has_put HOWN.out.isMap HHAS.out v.datum v.name y
      case measure => simp [intOf]; omega
    · obtain rfl : k = l.length := by omega
      have hm := HM.out
      rw [List.take_length] at hm
      have HM2 := Lib.hid hm
      have c0 := cell_of_block (j := 0) H2.out
      have c1 := cell_of_block (j := 1) H2.out
      have d0 := cell_of_block (j := 0) H0.out
      have d1 := cell_of_block (j := 1) H0.out
      simp only [List.getElem?_toArray, List.getElem?_cons_zero, List.getElem?_cons_succ] at c0 c1 d0 d1
      have f0 := frozen_of_block (j := 0) H0.out
      have f1 := frozen_of_block (j := 1) H0.out
      have hz2 := lt_heap H2.out
      clear hm HM
      go_wp2
      refine bodyPost_ret (v := .agg #[.map (some (w.heap.size + 1)), .bool call]) (by simp [results, Tryd.results23, go_sem, d0, d1]) rfl ?_
      refine ⟨w.heap.size + 1, rfl, HM2.out.kept ?_, by omega, ?_⟩
      · rw [Below.heap_setCell _ _ _ _ (by simp), Below.heap_setCell _ _ _ _ (by simp)]
      · exact (HB.out.setCell (by simp) _).setCell (by simp) _
end Go.Proofs.YtjmaficiinhjpaaDoor.G
