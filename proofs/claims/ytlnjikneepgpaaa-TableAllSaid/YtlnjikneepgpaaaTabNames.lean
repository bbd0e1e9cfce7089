/- table.Names: the walk: the keys collected in whatever order, then sorted. -/
import Derived.Test.YtlnjikneepgpaaaTabFind
import Derived.Test.YtlnjikneepgpaaaShelf
import Derived.Sort.KeysCollected
import Derived.Sort.OwnSorted
import Derived.Maps.RangeWalk
import Derived.OwnWalk
import Derived.LoopTactic
namespace Go.Proofs.Ytlnjikneepgpaaa.G
open Go.RowKit Go.Maps Go.WideMaps Go.Sort

def namesU : List (List UInt8) := tabL.map fun p => p.1.data.toList
def namesS : List (List UInt8) := [
  [97, 98, 115, 112, 97, 116, 104],
  [97, 100, 100, 112, 114, 101, 102, 105, 120],
  [97, 100, 100, 115, 117, 102, 102, 105, 120],
  [97, 110, 100],
  [98, 97, 115, 101, 110, 97, 109, 101],
  [99, 97, 108, 108],
  [100, 105, 114],
  [101, 114, 114, 111, 114],
  [101, 118, 97, 108],
  [102, 105, 108, 116, 101, 114],
  [102, 105, 108, 116, 101, 114, 45, 111, 117, 116],
  [102, 105, 110, 100, 115, 116, 114, 105, 110, 103],
  [102, 105, 114, 115, 116, 119, 111, 114, 100],
  [102, 108, 97, 118, 111, 114],
  [102, 111, 114, 101, 97, 99, 104],
  [105, 102],
  [105, 110, 102, 111],
  [105, 110, 116, 99, 109, 112],
  [106, 111, 105, 110],
  [108, 97, 115, 116, 119, 111, 114, 100],
  [108, 101, 116],
  [110, 111, 116, 100, 105, 114],
  [111, 114],
  [111, 114, 105, 103, 105, 110],
  [112, 97, 116, 115, 117, 98, 115, 116],
  [115, 111, 114, 116],
  [115, 116, 114, 105, 112],
  [115, 117, 98, 115, 116],
  [115, 117, 102, 102, 105, 120],
  [118, 97, 108, 117, 101],
  [119, 97, 114, 110, 105, 110, 103],
  [119, 105, 108, 100, 99, 97, 114, 100],
  [119, 111, 114, 100],
  [119, 111, 114, 100, 108, 105, 115, 116],
  [119, 111, 114, 100, 115]]
theorem names_perm : namesU.Perm namesS := List.isPerm_iff.1 (by decide +kernel)
theorem names_sorted : namesS.Pairwise (fun a b => leB a b = true) := by decide +kernel
theorem names_sort : namesU.mergeSort leB = namesS := by
  rw [mergeSort_of_perm names_perm]
  exact List.mergeSort_of_pairwise names_sorted
theorem names_nodup : namesU.Nodup := by decide +kernel
theorem names_len : namesU.length = 35 := by decide +kernel
theorem look_mem : ∀ (L : List (ByteArray × Inf)) (x : List UInt8), (lookT L ⟨x.toArray⟩).isSome = true ↔ x ∈ L.map fun p => p.1.data.toList
  | [], x => by simp [lookT]
  | (y, i) :: L, x => by
    by_cases e : (⟨x.toArray⟩ : ByteArray) = y
    · subst e
      simp [lookT]
    · have hne : ¬ x = y.data.toList := fun h => e (by rw [h])
      have := look_mem L x
      simp only [lookT, if_neg e, List.map_cons, List.mem_cons, hne, false_or]
      exact this
theorem inf_shape : ∀ (v : Value) (y : DataW Unit × List MemPlace), infR v = some y → ∃ c : Inf, v = c.cell := by
  intro v y h
  unfold infR at h
  split at h
  · rename_i fs
    split at h
    · rename_i a b c d heq
      exact ⟨⟨a, b, c, d⟩, by rw [show fs = #[.int .i64 a, .int .i64 b, .bool c, .bool d] by rw [← Array.toList_inj, heq]]; rfl⟩
    · cases h
  · cases h
theorem coll_mem {D : DataW Unit} (h2 : ∀ x, Maps.has D (keyL x) = (lookT tabL x).isSome) (x : List UInt8) : Maps.has D (.string x) = true ↔ x ∈ namesU := by
  have := h2 ⟨x.toArray⟩
  rw [show keyL ⟨x.toArray⟩ = .string x by simp [keyL]] at this
  rw [this]
  exact look_mem tabL x
theorem coll_le {D : DataW Unit} {left : Lit → Bool} {ss : List (List UInt8)} (h2 : ∀ x, Maps.has D (keyL x) = (lookT tabL x).isSome) (hC : Collected D left ss) : ss.length ≤ 35 := by
  have hp : (namesU.filter fun x => ss.contains x).Perm ss := by
    refine (List.perm_ext_iff_of_nodup (names_nodup.sublist List.filter_sublist) hC.1).2 fun x => ?_
    rw [List.mem_filter]
    constructor
    · rintro ⟨_, h⟩
      simpa using h
    · intro h
      exact ⟨(coll_mem h2 x).1 ((hC.2 x).1 h).1, by simpa using h⟩
  rw [← hp.length_eq, ← names_len]
  exact List.length_filter_le _ _
theorem coll_end {D : DataW Unit} {left : Lit → Bool} {ss : List (List UInt8)} (h2 : ∀ x, Maps.has D (keyL x) = (lookT tabL x).isSome) (hC : Collected D left ss) (hl : ∀ kl, left kl = false) : ss.Perm namesU := by
  refine (List.perm_ext_iff_of_nodup hC.1 names_nodup).2 fun x => ?_
  rw [hC.2 x, hl]
  simp only [and_true]
  exact coll_mem h2 x

theorem one_new (w : World) (C : List Value) (t : TypeId) : ∀ (j : Nat) (u : Value), C[j]? = some u → (w.alloc (.cells C.toArray t)).cell? ((⟨w.heap.size, 0, none⟩ : Addr).add j) = some u := by
  intro j u hu
  have e : (⟨w.heap.size, 0, none⟩ : Addr).add j = ⟨w.heap.size, j, none⟩ := by
    unfold Addr.add
    split
    · rename_i h0; rw [h0]
    · simp
  rw [e, cell_of_block (heap_alloc_new w _)]
  simpa using hu
theorem str_info : (Try.prog.info? 9).map (fun i => (i.zero, i.size, i.bytes)) = some (some (.string ⟨#[]⟩), 1, 16) := by kernel_rfl
set_option maxHeartbeats 1000000 in
set_option maxRecDepth 100000 in
theorem table_Names_own (w : World) :
    Calls Try.prog 38 #[] w fun e w' => ∃ g cap, e = .returned (.slice (some ⟨g, 0, none⟩) 35 cap) ∧ w'.ownsRow w.heap.size 9 1 (.slice (some ⟨g, 0, none⟩) 35 cap) 35 (namesS.map encStr) ∧ Below w.heap.size w w' := by
  obtain ⟨i0, hi, hz0, hz1, hz2⟩ := info_parts str_info
  go_enter Try.func38, Try.ntmps38
  go_wp2_with (first
    | (go_at_call 59; refine (table_all _).mono ?_; rintro e w1 ⟨b, B, w0, rfl, hT, hb, hB⟩; obtain ⟨⟨D, hown, h1, h2⟩, _, _, _⟩ := hT; have H2 := Lib.hid h2; have HB := Lib.hid hb; have hbl := hown.lt; clear h1 h2 hb)
    | (at_range; refine wpList_range_own _ rfl _ 91 rfl 9 61 str_law Try.underlying91 infR b 35 D rfl hown ?_; intro w2 hrg0 hg0 hs0))
  clear hs0
  go_frame
  go_loopw [1] (fun v wr => ∃ (left : Lit → Bool) (cnt : Nat) (ss : List (List UInt8)), wr.ranges Try.prog 9 infR b w1.heap.size 35 D left cnt ∧
      Hid (wr.ownsRow w1.heap.size 9 1 v ss.length (ss.map encStr)) ∧ Hid (Collected D left ss) ∧ Hid (Below w.heap.size w wr) ∧ Hid (w1.heap.size ≤ wr.heap.size))
    (fun _ wr => wr.rangeLeft b w1.heap.size)
  case atStart =>
    exact ⟨_, _, [], hrg0, Lib.hid (World.ownsRow_nil _ _ _ _), Lib.hid (Collected.start D), Lib.hid (HB.out.grown hg0 HB.out.size (fun j hj => by cases hj)), Lib.hid hg0.size⟩
  case round =>
    obtain ⟨left, cnt, ss, hrg, HROW, HC, HNX, HSZ⟩ := hrel
    go_wp2_with (at_next; refine wpList_next_ranges _ rfl _ rfl 9 str_law infR encStr Inf.cell (fun key kl hk => by obtain ⟨x, hx, _⟩ := Maps.keyOf_str Try.underlying9 hk; exact ⟨x, hx⟩) inf_shape b w1.heap.size 35 _ _ _ rfl hrg ?_ ?_)
    · intro hc0 hl0
      have hp := coll_end H2.out HC.out hl0
      have hlen : ss.length = 35 := hp.length_eq.trans names_len
      have hsrt : ss.mergeSort (fun x y => decide (x ≤ y)) = namesS := (mergeSort_of_perm hp).trans names_sort
      rcases HROW.out.2 with ⟨hnil, h0⟩ | ⟨g, cap, cur, rfl, hbase, hb, h1, h2, h3, h4⟩
      · omega
      have hH : Holds encStr wr g 0 ss.toArray := holds_of_block hb (by simpa using h4)
      have hgl : g < wr.heap.size := (Array.getElem?_eq_some_iff.1 hb).1
      have hc := Try.slices_Sort_string g 0 cap ss wr hH hgl (by omega)
      obtain ⟨ts, hts⟩ : ∃ ts, ts = namesS := ⟨_, rfl⟩
      rw [hsrt, ← hts] at hc
      have HTS := Lib.hid hts
      have HSR := Lib.hid (fun n os => ownsRow_sorted (os := os) (n := n) (ss := ss) (ts := ts) (by rw [hts, hlen]; decide) hbase hb h1 h2 h3)
      have HG := Lib.hid hbase
      have HLEN := Lib.hid hlen
      have HCALL := Lib.hid hc
      clear hp hsrt hH h4 hb h3 hlen hts hc h1 h2 hgl hbase hl0 hc0
      go_wp2_with (go_at_call 60; with_reducible refine HCALL.out.mono ?_; rintro e w' ⟨rfl, nn, os, rfl⟩; obtain ⟨w5, hw5⟩ : ∃ w5, w5 = grow (putRow encStr (Sort.ahead wr nn) g 0 ts.toArray) os := ⟨_, rfl⟩; have HR := Lib.hid (show w5.ownsRow w1.heap.size 9 1 (.slice (some ⟨g, 0, none⟩) ss.length cap) ss.length (ts.map encStr) from (by rw [hw5]; exact HSR.out nn os)); have HB5 := Lib.hid (show Below w.heap.size w w5 from (by rw [hw5]; exact HNX.out.grown (grownBy_sorted _) HNX.out.size (fun j hj => by cases hj; exact Nat.le_trans HB.out.size HG.out))); rw [← hw5]; clear hw5)
      go_ret
      have hr := HR.out
      rw [HLEN.out, HTS.out] at hr
      refine ⟨g, cap, by rw [HLEN.out]; rfl, ?_, HB5.out⟩
      rcases hr.2 with ⟨hnil, _⟩ | ⟨g', cap', cur', hv, hb', hr2⟩
      · cases hnil
      · exact ⟨hr.1, .inr ⟨g', cap', cur', hv, Nat.le_trans HB.out.size hb', hr2⟩⟩
    · intro x c kl yd yp w3 cnt2 hkey hlk hv hat hrg2 hlt hg2 hs2 hen
      obtain ⟨x', ex, rfl, _⟩ := Maps.keyOf_str Try.underlying9 hkey
      obtain rfl : x = x' := encStr_inj ex
      have hle := coll_le H2.out HC.out
      have HROW2 := Lib.hid (HROW.out.kept hg2 (Or.inr (row_ne_iter HROW.out hrg).symm))
      have HS3 : Hid (w1.heap.size ≤ w3.heap.size) := Lib.hid (Nat.le_trans HSZ.out hg2.size)
      have HNX2 := Lib.hid (HNX.out.grown hg2 HNX.out.size (fun j hj => by cases hj; exact HB.out.size))
      have HC2 := Lib.hid (HC.out.step hlk hat)
      have HLT := Lib.hid hlt
      clear hs2 hlk hat hlt hkey ex hv
      go_wp2_with (at_builtin; refine wpList_append_own _ rfl _ _ 56 rfl w1.heap.size 9 i0 (.string ⟨#[]⟩) 1 16 Try.underlying56 hi hz0 hz1 hz2 rfl (by decide) _ _ _ rfl (HROW2.out.alloc _) ⟨w3.heap.size, 0, none⟩ 1 1 [encStr x] rfl rfl (one_new _ _ _) (by simp [Value.oneCell', encStr]) (by unfold maxLen; omega) (by omega) (by have := HS3.out; simp; omega) ?_; intro v' w4 hown' hg3 hnil3; have HOWN := Lib.hid hown'; have HG3 := Lib.hid hg3; clear hown' hg3 hnil3)
      have hrg3 := (hrg2.alloc _).kept HG3.out (row_ne_low HROW2.out hbl) (row_ne_iter HROW2.out hrg2)
      go_roundw
      case rel =>
        refine ⟨_, cnt2, ss ++ [x], hrg3, Lib.hid (by simpa using HOWN.out), HC2, Lib.hid ?_, Lib.hid ?_⟩
        · exact (HNX2.out.alloc HNX2.out.size _).grown HG3.out (by have := HNX2.out.size; simp; omega) (fun j hj => Nat.le_trans HB.out.size (HROW2.out.lt j hj).1)
        · have h5 := HG3.out.size
          have h6 := HS3.out
          simp at h5
          omega
      case measure => rw [hrg3.left_eq, hrg.left_eq]; exact HLT.out
end Go.Proofs.Ytlnjikneepgpaaa.G
