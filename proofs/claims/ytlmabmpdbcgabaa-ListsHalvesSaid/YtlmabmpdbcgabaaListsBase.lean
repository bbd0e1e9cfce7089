/- lists: lists of texts in memory; lists.Sort and lists.Slice walked. -/
import Derived.Test.YtlmabmpdbcgabaaPx
import Derived.Test.YtlmabmpdbcgabaaShelf
import Derived.Sort.OwnSorted
import Derived.Lib.SlicesCompact
import Derived.Lib.Hide
import Derived.WalkKit
namespace Go.Proofs.Ytlmabmpdbcgabaa.G
open Go.RowKit Go.Sort Go.Proofs.Ytlmabmpdbcgabaa.P Go.Proofs.YtlmabmpdbcgabaaW.PrintWords

/-- A list of texts that is read at this address. -/
def Strs (w : World) (A : Option Addr) (l : List ByteArray) : Prop := Kd.C Kd.string w A l.length l
theorem Strs.below {w w' : World} {A : Option Addr} {l : List ByteArray} (h : Strs w A l) (hb : Below w.heap.size w w') : Strs w' A l := Kd.C_below h hb
theorem Strs.cells {w : World} {A : Option Addr} {l : List ByteArray} (h : Strs w A l) (hp : 0 < l.length) :
    ∃ b off, A = some ⟨b, off, none⟩ ∧ b < w.heap.size ∧ ∀ j s, l[j]? = some s → w.cell? ⟨b, off + j, none⟩ = some (.string s) := by
  obtain ⟨a, rfl, hc⟩ := h.2.2 hp
  have hcell : ∀ j s, l[j]? = some s → w.cell? (a.add (j * 1)) = some (.string s) := fun j s hs => by
    obtain ⟨cs, _, hK, hcell⟩ := hc j s hs
    obtain rfl : cs = [.string s] := hK
    exact hcell 0 _ rfl
  have h0 := hcell 0 _ (List.getElem?_eq_getElem hp)
  rw [show 0 * 1 = 0 from rfl] at h0
  have hsp : a.spot = none := World.cell?_spot h0
  obtain ⟨b, off, sp⟩ := a
  simp only at hsp
  subst hsp
  have e : ∀ j, (⟨b, off, none⟩ : Addr).add j = ⟨b, off + j, none⟩ := fun j => by
    unfold Addr.add
    split
    · rename_i h0; rw [h0]; rfl
    · rfl
  refine ⟨b, off, rfl, World.block_lt_of_cell? w _ h0, fun j s hs => ?_⟩
  have := hcell j s hs
  rwa [Nat.mul_one, e] at this
theorem Strs.mk {w : World} {b off : Nat} {l : List ByteArray} (hl : l.length ≤ 9223372036854775807) (h : ∀ j s, l[j]? = some s → w.cell? ⟨b, off + j, none⟩ = some (.string s)) : Strs w (some ⟨b, off, none⟩) l := by
  have e : ∀ j, (⟨b, off, none⟩ : Addr).add j = ⟨b, off + j, none⟩ := fun j => by
    unfold Addr.add
    split
    · rename_i h0; rw [h0]; rfl
    · rfl
  refine ⟨rfl, hl, fun _ => ⟨_, rfl, fun j s hs => ⟨[.string s], rfl, rfl, fun i u hu => ?_⟩⟩⟩
  cases i with
  | zero =>
    have hu' : u = .string s := by simpa using hu.symm
    subst hu'
    show w.cell? ((⟨b, off, none⟩ : Addr).add (j * 1 + 0)) = _
    rw [e, Nat.mul_one]
    exact h j s hs
  | succ i => simp at hu
theorem Strs.nil (w : World) (A : Option Addr) : Strs w A [] := ⟨rfl, by simp, fun h => absurd h (by simp)⟩
theorem Strs.cut {w : World} {A : Option Addr} {l : List ByteArray} (h : Strs w A l) : l.length ≤ 9223372036854775807 := h.2.1

/-- An own row of texts. -/
def Row (w : World) (base : Nat) (v : Value) (l : List ByteArray) : Prop := w.ownsRow base 9 1 v l.length (l.map Value.string)
theorem Row.strs {w : World} {base : Nat} {v : Value} {l : List ByteArray} (h : Row w base v l) : ∃ A c, v = .slice A l.length c ∧ l.length ≤ c ∧ Strs w A l := by
  rcases h.2 with ⟨rfl, h0⟩ | ⟨g, cap, cur, rfl, hb, hg, h1, h2, h3, h4⟩
  · obtain rfl := List.length_eq_zero_iff.mp h0
    exact ⟨none, 0, rfl, Nat.le_refl _, Strs.nil _ _⟩
  · refine ⟨_, cap, rfl, h1, Strs.mk (by unfold maxLen at h2; omega) (fun j s hs => ?_)⟩
    have hj := (List.getElem?_eq_some_iff.mp hs).1
    rw [Nat.zero_add, h.cellAt j (by omega), List.getElem?_map, hs]; rfl
theorem Row.nil (w : World) (base : Nat) : Row w base (.slice none 0 0) [] := World.ownsRow_nil _ _ _ _

/-- What a call gives back: texts that can be read; nothing old has turned. -/
def Gives (w w' : World) (e : Ending) (l : List ByteArray) : Prop :=
  ∃ A c, e = .returned (.slice A l.length c) ∧ l.length ≤ c ∧ Strs w' A l ∧ Below w.heap.size w w'
theorem Gives.of_row {w w' : World} {v : Value} {l : List ByteArray} (h : Row w' w.heap.size v l) (hb : Below w.heap.size w w') : Gives w w' (.returned v) l := by
  obtain ⟨A, c, rfl, hc, hs⟩ := h.strs
  exact ⟨A, c, rfl, hc, hs, hb⟩
theorem Gives.of_R {w w' : World} {v : Value} {l : List ByteArray} (h : Kd.R Kd.string 9 w' w.heap.size (fun _ => True) v l) (hb : Below w.heap.size w w') : Gives w w' (.returned v) l := by
  obtain ⟨A, c, rfl, hc, hs⟩ := Kd.R_reads h
  exact ⟨A, c, rfl, hc, hs, hb⟩

/-! ### the library's functions over own rows -/
theorem clone_row (w : World) (A : Option Addr) (c : Nat) (l : List ByteArray) (h : Strs w A l) (hl : l.length ≤ 1000000) :
    Calls Try.prog 23 #[.slice A l.length c] w fun e w' => ∃ v, e = .returned v ∧ Row w' w.heap.size v l ∧ Below w.heap.size w w' := by
  by_cases h0 : l.length = 0
  · obtain rfl := List.length_eq_zero_iff.mp h0
    cases A with
    | none =>
      refine (Try.slices_Clone_string_nil 0 c w).mono ?_
      rintro e w' ⟨rfl, rfl⟩
      exact ⟨_, rfl, Row.nil _ _, Below.refl _ _⟩
    | some a =>
      refine (Try.slices_Clone_string_zero a c w).mono ?_
      rintro e w' ⟨v, rfl, h1, _, h2⟩
      exact ⟨v, rfl, h1, h2⟩
  · obtain ⟨b, off, rfl, hb, hc⟩ := h.cells (by omega)
    refine (Try.slices_Clone_string b off l.length c l w (Nat.le_refl _) (by omega) (fun j hj => by rw [hc j _ (List.getElem?_eq_getElem hj), List.getD_eq_getElem?_getD, List.getElem?_eq_getElem hj]; rfl)).mono ?_
    rintro e w' ⟨v, rfl, h1, _, h2⟩
    rw [List.take_length] at h1
    exact ⟨v, rfl, h1, h2⟩

def bytes (l : List ByteArray) : List (List UInt8) := l.map (fun s => s.data.toList)
def texts (l : List (List UInt8)) : List ByteArray := l.map (fun s => ⟨s.toArray⟩)
theorem texts_bytes (l : List ByteArray) : texts (bytes l) = l := by
  unfold texts bytes
  rw [List.map_map]
  have : ((fun s : List UInt8 => (⟨s.toArray⟩ : ByteArray)) ∘ fun s : ByteArray => s.data.toList) = id := by funext s; rfl
  rw [this, List.map_id]
theorem enc_texts (l : List (List UInt8)) : l.map encStr = (texts l).map Value.string := by
  unfold texts; rw [List.map_map]; rfl
theorem texts_len (l : List (List UInt8)) : (texts l).length = l.length := List.length_map _
theorem bytes_len (l : List ByteArray) : (bytes l).length = l.length := List.length_map _
def srt (l : List ByteArray) : List (List UInt8) := (bytes l).mergeSort (fun x y => decide (x ≤ y))
theorem srt_len (l : List ByteArray) : (srt l).length = l.length := by unfold srt; rw [List.length_mergeSort, bytes_len]
def sortB (l : List ByteArray) : List ByteArray := texts (Lib.compact (srt l))
theorem below_row {B : Nat} {w w' : World} {g : Nat} (hg : w.grownBy w' (some g)) (hB : B ≤ w.heap.size) (h : B ≤ g) : Below B w w' := (Below.refl B w).grown hg hB (fun k hk => by cases hk; exact h)

theorem sort_row (w : World) (base : Nat) (v : Value) (l : List ByteArray) (h : Row w base v l) (hl : l.length ≤ 1000000) (hb : base ≤ w.heap.size) :
    Calls Try.prog 24 #[v] w fun e w' => e = .returned (.tuple #[]) ∧ Row w' base v (texts (srt l)) ∧ Below base w w' := by
  have hls : (texts (srt l)).length = l.length := by rw [texts_len, srt_len]
  rcases h.2 with ⟨rfl, h0⟩ | ⟨g, cap, cur, rfl, hbase, hg, h1, h2, h3, h4⟩
  · obtain rfl := List.length_eq_zero_iff.mp h0
    refine (Try.slices_Sort_string_none none 0 w).mono ?_
    rintro e w' ⟨rfl, rfl⟩
    exact ⟨rfl, by rw [show texts (srt []) = [] from List.length_eq_zero_iff.mp hls]; exact h, Below.refl _ _⟩
  · have hH : Holds encStr w g 0 (bytes l).toArray := holds_of_block hg (by rw [bytes_len, enc_texts, texts_bytes]; simpa using h4)
    have hgl : g < w.heap.size := (Array.getElem?_eq_some_iff.1 hg).1
    have hc := Try.slices_Sort_string g 0 cap (bytes l) w hH hgl (by rw [bytes_len]; omega)
    rw [bytes_len] at hc
    refine hc.mono ?_
    rintro e w' ⟨rfl, n, os, rfl⟩
    refine ⟨rfl, ?_, below_row (grownBy_sorted _) hb hbase⟩
    have := ownsRow_sorted (os := os) (n := n) (ss := bytes l) (ts := srt l) (by rw [srt_len, bytes_len]) hbase hg (by rw [bytes_len]; exact h1) h2 h3
    rw [bytes_len, enc_texts] at this
    unfold Row
    rw [hls]
    exact this
theorem grownBy_put {w : World} {g q : Nat} (d : Array (List UInt8)) : w.grownBy (putRow encStr (Sort.ahead w q) g 0 d) (some g) := by
  refine ⟨rfl, rfl, rfl, by simp [putRow, mapBlock, Sort.ahead], fun k hk hne => ?_⟩
  have : g ≠ k := fun e => hne (by rw [e])
  simp [putRow, mapBlock, Sort.ahead, Array.getElem?_modify, this]
theorem compact_le (l : List (List UInt8)) : (Lib.compact l).length ≤ l.length := by
  unfold Lib.compact Lib.compactUpTo
  rw [List.length_map]
  refine Nat.le_trans (List.length_filter_le _ _) ?_
  simp
theorem compact_row (w : World) (base : Nat) (v : Value) (l : List (List UInt8)) (h : Row w base v (texts l)) (hl : l.length ≤ 1000000) (hb : base ≤ w.heap.size) :
    Calls Try.prog 25 #[v] w fun e w' => ∃ v', e = .returned v' ∧ Row w' base v' (texts (Lib.compact l)) ∧ Below base w w' := by
  have hle := compact_le l
  have hll := texts_len l
  rcases h.2 with ⟨rfl, h0⟩ | ⟨g, cap, cur, rfl, hbase, hg, h1, h2, h3, h4⟩
  · have hl0 : l = [] := List.length_eq_zero_iff.mp (by omega)
    subst hl0
    refine (Try.slices_Compact_string_empty none 0 w).mono ?_
    rintro e w' ⟨rfl, rfl⟩
    exact ⟨_, rfl, by rw [show Lib.compact ([] : List (List UInt8)) = [] from List.length_eq_zero_iff.mp (by simpa using hle)]; exact h, Below.refl _ _⟩
  · have hH : Holds encStr w g 0 l.toArray := holds_of_block hg (by rw [enc_texts, ← hll]; simpa using h4)
    have hc := Try.slices_Compact_string g 0 cap l w hH (by omega) (by omega)
    rw [hll]
    refine hc.mono ?_
    rintro e w' ⟨rfl, q, rfl⟩
    have hs := heap_sorted (n := q) (os := #[]) (Lib.compact l ++ List.replicate (l.length - (Lib.compact l).length) []).toArray hg
    have hs' : (putRow encStr (Sort.ahead w q) g 0 (Lib.compact l ++ List.replicate (l.length - (Lib.compact l).length) []).toArray).heap[g]? = some (.cells (putCells encStr 0 (Lib.compact l ++ List.replicate (l.length - (Lib.compact l).length) []).toArray cur) 9 (0, 0)) := by
      simpa [grow] using hs
    have hgr' := grownBy_put (w := w) (g := g) (q := q) (Lib.compact l ++ List.replicate (l.length - (Lib.compact l).length) []).toArray
    refine ⟨_, rfl, ⟨by simp, .inr ⟨g, cap, _, ?_, hbase, hs', by rw [texts_len]; omega, h2, by simp [putCells, h3], ?_⟩⟩, below_row hgr' hb hbase⟩
    · rw [texts_len]
    · have ht := take_putCells cur (Lib.compact l ++ List.replicate (l.length - (Lib.compact l).length) []) (by simp; omega)
      have h5 : ((putCells encStr 0 (Lib.compact l ++ List.replicate (l.length - (Lib.compact l).length) []).toArray cur).toList.take (Lib.compact l ++ List.replicate (l.length - (Lib.compact l).length) []).length).take (Lib.compact l).length = ((Lib.compact l ++ List.replicate (l.length - (Lib.compact l).length) []).map encStr).take (Lib.compact l).length := by rw [ht]
      rw [List.take_take, List.map_append, Nat.min_eq_left (by simp)] at h5
      rw [texts_len, Nat.mul_one, h5, List.take_left' (by simp), enc_texts]

set_option maxHeartbeats 1000000 in
theorem sort_calls (w : World) (A : Option Addr) (c : Nat) (l : List ByteArray) (h : Strs w A l) (hl : l.length ≤ 1000000) :
    Calls Try.prog 10 #[.slice A l.length c] w fun e w' => Gives w w' e (sortB l) := by
  have H := Lib.hid h
  clear h
  go_enter Try.func10, Try.ntmps10
  go_wp2_with (first
    | (go_at_call 23; refine (clone_row _ A c l H.out hl).mono ?_; rintro e w1 ⟨v, rfl, hR, hB⟩; have R1 := Lib.hid hR; have B1 := Lib.hid hB; clear hR hB)
    | (go_at_call 24; refine (sort_row _ _ v l R1.out hl B1.out.size).mono ?_; rintro e w2 ⟨rfl, hR, hB⟩; have R2 := Lib.hid hR; have B2 := Lib.hid (B1.out.trans hB); clear hR hB)
    | (go_at_call 25; refine (compact_row _ _ v (srt l) R2.out (by rw [srt_len]; exact hl) B2.out.size).mono ?_; rintro e w3 ⟨v3, rfl, hR, hB⟩; have R3 := Lib.hid hR; have B3 := Lib.hid (B2.out.trans hB); clear hR hB))
  go_ret
  exact Gives.of_row R3.out B3.out
end Go.Proofs.Ytlmabmpdbcgabaa.G
