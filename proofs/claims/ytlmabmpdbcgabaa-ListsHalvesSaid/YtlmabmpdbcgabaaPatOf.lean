/- What pattern.Of answers: a pattern's text read on from each percent sign, as plain Lean; and the walk of its code. -/
import Derived.Test.YtlmabmpdbcgabaaBuilder
import Derived.Test.YtlmabmpdbcgabaaShelf
import Derived.Below
import Derived.Lib.Hide
import Derived.WalkKit
import Derived.BigCall
import Derived.Deep.LoopGhost
import Derived.Outline
import Derived.Lib.IndexBytes
namespace Go.Proofs.Ytlmabmpdbcgabaa.G
open Go.RowKit

/-- How far back backslashes stand ahead of place k. -/
def stopAt (l : List UInt8) : Nat → Nat
  | 0 => 0
  | k + 1 => if l.getD k 0 = 92 then stopAt l k else k + 1
theorem stopAt_le (l : List UInt8) : ∀ k, stopAt l k ≤ k
  | 0 => Nat.le_refl _
  | k + 1 => by
    unfold stopAt
    split
    · exact Nat.le_trans (stopAt_le l k) (Nat.le_succ k)
    · exact Nat.le_refl _

/-- A pattern's parts: with so much fuel, behind what was read. -/
def ofL : Nat → List UInt8 → List UInt8 → Bool × List UInt8 × List UInt8
  | 0, pre, _ => (false, pre, [])
  | f + 1, pre, l =>
    if Lib.indexByte l 37 < 0 then (false, pre ++ l, [])
    else
      if ((Lib.indexByte l 37).toNat - stopAt l (Lib.indexByte l 37).toNat) % 2 = 0 then
        (true, pre ++ l.take (stopAt l (Lib.indexByte l 37).toNat + ((Lib.indexByte l 37).toNat - stopAt l (Lib.indexByte l 37).toNat) / 2), l.drop ((Lib.indexByte l 37).toNat + 1))
      else ofL f (pre ++ l.take (stopAt l (Lib.indexByte l 37).toNat + ((Lib.indexByte l 37).toNat - stopAt l (Lib.indexByte l 37).toNat) / 2) ++ [37]) (l.drop ((Lib.indexByte l 37).toNat + 1))

def ofS (s : ByteArray) : Bool × List UInt8 × List UInt8 := ofL (s.size + 1) [] s.data.toList

def pattern_Of.f (a0 : ByteArray) : Option (Bool × ByteArray × ByteArray) :=
  if a0.size ≤ 140737488355328 then some ((ofS a0).1, ⟨(ofS a0).2.1.toArray⟩, ⟨(ofS a0).2.2.toArray⟩) else none

theorem idx_lt (l : List UInt8) (c : UInt8) : -1 ≤ Lib.indexByte l c ∧ Lib.indexByte l c < l.length := by
  induction l with
  | nil => simp [Lib.indexByte]
  | cons b l ih =>
    simp only [Lib.indexByte, List.length_cons]
    split
    · omega
    · split
      · omega
      · omega

/-- One step of the reading, as the loop takes it. -/
theorem ofL_none {f : Nat} {pre l : List UInt8} (h : Lib.indexByte l 37 < 0) : ofL (f + 1) pre l = (false, pre ++ l, []) := by
  simp only [ofL]; rw [if_pos h]
theorem ofL_even {f : Nat} {pre l : List UInt8} {n k : Nat} (h : Lib.indexByte l 37 = (n : Int)) (hk : stopAt l n = k) (he : (n - k) % 2 = 0) :
    ofL (f + 1) pre l = (true, pre ++ l.take (k + (n - k) / 2), l.drop (n + 1)) := by
  simp only [ofL]; rw [if_neg (by omega), h]; simp only [Int.toNat_natCast, hk]; rw [if_pos he]
theorem ofL_odd {f : Nat} {pre l : List UInt8} {n k : Nat} (h : Lib.indexByte l 37 = (n : Int)) (hk : stopAt l n = k) (he : ¬ (n - k) % 2 = 0) :
    ofL (f + 1) pre l = ofL f (pre ++ l.take (k + (n - k) / 2) ++ [37]) (l.drop (n + 1)) := by
  simp only [ofL]; rw [if_neg (by omega), h]; simp only [Int.toNat_natCast, hk]; rw [if_neg he]

/-- The length of a string's value. -/
def strLen : Value → Nat
  | .string s => s.size
  | _ => 0

theorem idx_any (s : ByteArray) (n : Int) (w : World) (h : Lib.indexByte s.data.toList 37 = n) :
    Calls Try.prog 37 #[.string s, .int .u8 37] w fun e w' => e = .returned (.int .i64 n) ∧ w = w' :=
  (Try.strings_IndexByte s 37 w).mono fun e w' ⟨he, hw⟩ => ⟨he.trans (by rw [show ((37 : Int).toNat.toUInt8) = 37 from rfl, h]), hw.symm⟩

theorem string_any (B b : Nat) (l : List UInt8) (w : World) (h : Lib.IsBuilder 62 5 B b (Lib.byteCells l) w) (hBw : B ≤ w.heap.size) :
    Calls Try.prog 38 #[.pointer (some ⟨b, 0, none⟩)] w fun e w' => e = .returned (.string ⟨l.toArray⟩) ∧ Below B w w' :=
  Try.Builder_String_any B b l w h hBw

theorem writeString_l (B : Nat) (pre : List UInt8) (s : ByteArray) (m : Nat) (w : World) (h : Lib.IsBuilder 62 5 B B (Lib.byteCells pre) w) (hlen : pre.length + s.size ≤ 140737488355328) (hBw : B ≤ w.heap.size) :
    Calls Try.prog 39 #[.pointer (some ⟨B, 0, none⟩), .string (s.extract 0 m)] w fun e w' => e = .returned (.tuple #[.int .i64 (s.extract 0 m).size, .nilIface]) ∧ Lib.IsBuilder 62 5 B B (Lib.byteCells (pre ++ s.data.toList.take m)) w' ∧ Below B w w' := by
  have hsz : (s.extract 0 m).size ≤ s.size := by simp; omega
  refine (writeString_any B B _ (s.extract 0 m) w h (by rw [Lib.byteCells_length]; omega) hBw).mono ?_
  rintro e w' ⟨rfl, h1, hb⟩
  refine ⟨rfl, Or.inr ?_, hb⟩
  rw [Lib.byteCells_append]
  have e2 : (s.extract 0 m).data.toList = s.data.toList.take m := by
    rw [Lib.extract_data]; simp
  rw [Lib.strCells_eq, e2] at h1
  exact h1

theorem writeByte_l (B : Nat) (pre : List UInt8) (c : UInt8) (n : Int) (hc : n = (c.toNat : Int)) (w : World) (h : Lib.IsBuilder 62 5 B B (Lib.byteCells pre) w) (hlen : pre.length + 1 ≤ 140737488355328) (hBw : B ≤ w.heap.size) :
    Calls Try.prog 40 #[.pointer (some ⟨B, 0, none⟩), .int .u8 n] w fun e w' => e = .returned .nilIface ∧ Lib.IsBuilder 62 5 B B (Lib.byteCells (pre ++ [c])) w' ∧ Below B w w' := by
  refine (writeByte_any B B _ n w h (by rw [Lib.byteCells_length]; omega) hBw).mono ?_
  rintro e w' ⟨rfl, h1, hb⟩
  refine ⟨rfl, Or.inr ?_, hb⟩
  rw [Lib.byteCells_append]
  rw [hc] at h1
  exact h1

/-- The result's cells, at a world in which that block stands. -/
theorem res_cells {wr w1 : World} {b B : Nat} (hres : wr.heap[b]? = some (.cells #[.bool false, .string ⟨#[]⟩, .string ⟨#[]⟩] 42 (0, 0))) (hB : b < B) (hb : Below B wr w1) :
    w1.heap[b]? = some (.cells #[.bool false, .string ⟨#[]⟩, .string ⟨#[]⟩] 42 (0, 0)) := by
  rw [← hres]; exact hb.block b hB

/-- The ends: what the cells hold is what was to be answered. -/
theorem of_end {a0 : ByteArray} {r1 : Bool} {r2 r3 : ByteArray} {b : Bool} {x y : List UInt8} (hr : (ofS a0).1 = r1 ∧ (⟨(ofS a0).2.1.toArray⟩ : ByteArray) = r2 ∧ (⟨(ofS a0).2.2.toArray⟩ : ByteArray) = r3) (he : ofS a0 = (b, x, y)) :
    r1 = b ∧ r2 = ⟨x.toArray⟩ ∧ r3 = ⟨y.toArray⟩ := by
  rw [he] at hr; exact ⟨hr.1.symm, hr.2.1.symm, hr.2.2.symm⟩
theorem cat_eq (x : List UInt8) (s : ByteArray) : (⟨x.toArray⟩ : ByteArray) ++ s = ⟨(x ++ s.data.toList).toArray⟩ := by
  obtain ⟨⟨l⟩⟩ := s
  apply ByteArray.ext; simp
theorem drop_eq (s : ByteArray) (n : Nat) : s.extract n s.size = ⟨(s.data.toList.drop n).toArray⟩ := by
  rw [← Lib.extract_to_end s n, Lib.mk_data]

/-- What a round of the outer loop holds. -/
def OfRel (s0 : ByteArray) (w : World) (sv : Value) (wr : World) : Prop :=
  ∃ (s : ByteArray) (f : Nat) (pre : List UInt8), sv = .string s ∧ s.size < f ∧ Lib.IsBuilder 62 5 (w.heap.size + 1) (w.heap.size + 1) (Lib.byteCells pre) wr ∧ pre.length + s.size ≤ s0.size ∧ ofS s0 = ofL f pre s.data.toList ∧
    wr.heap[w.heap.size]? = some (.cells #[.bool false, .string ⟨#[]⟩, .string ⟨#[]⟩] 42 (0, 0)) ∧ Below w.heap.size w wr ∧ w.heap.size + 2 ≤ wr.heap.size

set_option maxHeartbeats 4000000 in
set_option maxRecDepth 100000 in
theorem pattern_Of.calls (a0 : ByteArray) (r1 : Bool) (r2 r3 : ByteArray) (w : World) (h : pattern_Of.f a0 = some (r1, r2, r3)) :
    Calls Try.prog 26 #[.string a0] w fun e w' => e = .returned (.agg #[.bool r1, .string r2, .string r3]) ∧ Below w.heap.size w w' := by
  unfold pattern_Of.f at h
  split at h
  case isFalse => exact absurd h (by simp)
  case isTrue hs =>
  simp only [Option.some.injEq, Prod.mk.injEq] at h
  have HR := Lib.hid h
  clear h
  go_enter Try.func26, Try.ntmps26
  go_wp2
  go_loopw [0] (fun sv wr => OfRel a0 w sv wr) (fun sv _ => strLen sv)
  case atStart =>
    refine ⟨a0, a0.size + 1, [], rfl, by omega, ?_, by simp, rfl, ?_, ?_, by simp⟩
    · have hf := Lib.fresh_isBuilder 62 5 (w.alloc (.cells #[.bool false, .string ⟨#[]⟩, .string ⟨#[]⟩] 42))
      simpa [Lib.byteCells] using hf
    · rw [Lib.alloc_old _ _ _ (by simp)]
      exact heap_alloc_new w _
    · exact ((Below.refl _ _).alloc (Nat.le_refl _) _).alloc (by simp) _
  case round =>
    obtain ⟨s, f, pre, rfl, hf, hI, hl, hE, hres, hb, hsz⟩ := hrel
    have HE := Lib.hid hE
    have HI := Lib.hid hI
    clear hE hI
    obtain ⟨g, rfl⟩ : ∃ g, f = g + 1 := ⟨f - 1, by omega⟩
    obtain ⟨hlo, hhi⟩ := idx_lt s.data.toList 37
    by_cases hn : Lib.indexByte s.data.toList 37 < 0
    · have HX := Lib.hid (show Lib.indexByte s.data.toList 37 = -1 by omega)
      have HV := Lib.hid (HE.out.trans (ofL_none hn))
      have HB := Lib.hid hres
      clear hn hlo hhi hres
      go_wp2_with (first | (go_at_call 37; refine (idx_any s (-1) _ HX.out).mono ?_; rintro e w' ⟨rfl, rfl⟩) | (go_at_call 38; refine (string_any (w.heap.size + 1) (w.heap.size + 1) pre _ HI.out (by omega)).mono ?_; rintro e w1 ⟨rfl, hb1⟩; have hr1 := Lib.hid (res_cells HB.out (Nat.lt_succ_self _) hb1); have c0 := (Lib.cell_of_heap hr1.out 0).trans rfl; have c1 := (Lib.cell_of_heap hr1.out 1).trans rfl; have c2 := (Lib.cell_of_heap hr1.out 2).trans rfl; have f0 := Lib.frozen_of_heap hr1.out 0; have f1 := Lib.frozen_of_heap hr1.out 1; have f2 := Lib.frozen_of_heap hr1.out 2))
      obtain ⟨rfl, rfl, rfl⟩ := of_end HR.out HV.out
      refine bodyPost_ret (v := .agg #[.bool false, .string ⟨(pre ++ s.data.toList).toArray⟩, .string ⟨[].toArray⟩]) ?_ rfl ⟨rfl, ?_⟩
      · rw [← cat_eq]
        simp [results, Try.results26, go_sem, c0, c1, c2]
      · exact (hb.trans (hb1.mono (by omega))).setCell (Nat.le_refl _) _ |>.setCell (Nat.le_refl _) _ |>.setCell (Nat.le_refl _) _
    · obtain ⟨n, hX⟩ : ∃ n : Nat, Lib.indexByte s.data.toList 37 = (n : Int) := ⟨_, (Int.toNat_of_nonneg (by omega)).symm⟩
      have HX := Lib.hid hX
      have HB := Lib.hid hres
      have hns : n < s.size := by have h_ : (s.data.toList.length : Nat) = s.size := rfl; omega
      clear hn hlo hhi hres hX
      go_wp2_with (first | (go_at_call 37; refine (idx_any s (n : Int) _ HX.out).mono ?_; rintro e w' ⟨rfl, rfl⟩))
      go_loop [5] (fun v => ∃ k : Nat, k ≤ n ∧ v = .int .i64 k ∧ Hid (stopAt s.data.toList k = stopAt s.data.toList n)) (fun v => (intOf v).toNat)
      case atStart => exact ⟨n, Nat.le_refl _, rfl, Lib.hid rfl⟩
      case round =>
        obtain ⟨k, hk, rfl, hst⟩ := hrel
        cases k with
        | zero =>
          have hks : stopAt s.data.toList n = 0 := hst.out.symm.trans rfl
          have HK := Lib.hid hks
          clear hks
          by_cases hp : (n - 0) % 2 = 0
          · have HV := Lib.hid (HE.out.trans (ofL_even HX.out HK.out hp))
            have hpb : (((n : Int) - 0) % 2 == 0) = true := by first | (rw [beq_iff_eq]; omega) | (rw [beq_eq_false_iff_ne]; omega)
            go_wp2_with (go_at_call 39; refine (writeString_l (w.heap.size + 1) pre s (n / 2) _ HI.out (by omega) (by omega)).mono ?_; rintro e w1 ⟨rfl, h1, hb1⟩; have H1 := Lib.hid h1; clear h1; have hr1 := Lib.hid (res_cells HB.out (Nat.lt_succ_self _) hb1); have hz1 := hb1.size)
            have hw0 : IntKind.i64.wrap (↑n + 1) = (n : Int) + 1 := IntWalk.i64_in _ (by omega)
            have hw1 : (0 : Int) ≤ (n : Int) + 1 := by omega
            have hw2 : ((n : Int) + 1).toNat = n + 1 := by omega
            go_region_with (go_at_call 38; (refine (string_any (w.heap.size + 1) (w.heap.size + 1) (pre ++ s.data.toList.take (n / 2)) w1.drew H1.out (show w.heap.size + 1 ≤ w1.heap.size by omega)).mono ?_); rintro e w2 ⟨rfl, hb2⟩; have hB2 := Lib.hid ((Below.drew (Below.refl _ _)).trans hb2); have hr2 := Lib.hid (res_cells hr1.out (Nat.lt_succ_self _) hB2.out); have c0 := (Lib.cell_of_heap hr2.out 0).trans rfl; have c1 := (Lib.cell_of_heap hr2.out 1).trans rfl; have c2 := (Lib.cell_of_heap hr2.out 2).trans rfl; have f0 := Lib.frozen_of_heap hr2.out 0; have f1 := Lib.frozen_of_heap hr2.out 1; have f2 := Lib.frozen_of_heap hr2.out 2)
            all_goals
              clear hw0 hw1 hw2
              go_wp2
              obtain ⟨rfl, rfl, rfl⟩ := of_end HR.out HV.out
              refine bodyPost_ret (v := .agg #[.bool true, .string ⟨(pre ++ s.data.toList.take (0 + (n - 0) / 2)).toArray⟩, .string ⟨(s.data.toList.drop (n + 1)).toArray⟩]) ?_ rfl ⟨rfl, ?_⟩
              · rw [← drop_eq]; simp [results, Try.results26, go_sem, c0, c1, c2]
              · exact ((hb.trans ((hb1.trans hB2.out).mono (by omega))).setCell (Nat.le_refl _) _ |>.setCell (Nat.le_refl _) _ |>.setCell (Nat.le_refl _) _)
          · have HV := Lib.hid (HE.out.trans (ofL_odd HX.out HK.out hp))
            have hpb : (((n : Int) - 0) % 2 == 0) = false := by first | (rw [beq_iff_eq]; omega) | (rw [beq_eq_false_iff_ne]; omega)
            go_wp2_with (go_at_call 39; refine (writeString_l (w.heap.size + 1) pre s (n / 2) _ HI.out (by omega) (by omega)).mono ?_; rintro e w1 ⟨rfl, h1, hb1⟩; have H1 := Lib.hid h1; clear h1; have hr1 := Lib.hid (res_cells HB.out (Nat.lt_succ_self _) hb1); have hz1 := hb1.size)
            go_wp2_with (go_at_call 40; refine (writeByte_l (w.heap.size + 1) (pre ++ s.data.toList.take (n / 2)) 37 _ rfl _ H1.out (by have h_ : (s.data.toList.length : Nat) = s.size := rfl; simp; omega) (by omega)).mono ?_; rintro e w2 ⟨rfl, h2, hb2⟩; have H2 := Lib.hid h2; clear h2)
            go_roundw
            case rel =>
              refine ⟨s.extract (n + 1) s.size, g, (pre ++ s.data.toList.take (n / 2)) ++ [37], rfl, by simp; omega, H2.out, ?_, ?_, res_cells hr1.out (Nat.lt_succ_self _) hb2, hb.trans ((hb1.trans hb2).mono (by omega)), by have := hb2.size; omega⟩
              · have h_ : (s.data.toList.length : Nat) = s.size := rfl
                simp; omega
              · rw [Lib.extract_to_end]; have e_ := HV.out; rw [Nat.zero_add, Nat.sub_zero] at e_; exact e_
            case measure => simp [strLen]; omega
        | succ j =>
          have hjs : j < s.size := by omega
          have hgd : s.data.toList.getD j 0 = s[j] := by
            have e_ : s.data.toList[j]? = some s[j] := by
              rw [Array.getElem?_toList]; exact Array.getElem?_eq_getElem hjs
            rw [List.getD, e_]; (try rfl)
          by_cases hq : s.data.toList.getD j 0 = 92
          · have hb92 : ((s[j].toNat : Int) == 92) = true := by
              rw [← hgd, hq]; rfl
            clear hgd
            go_wp2_with fail
            go_round
            case rel => exact ⟨j, by omega, rfl, Lib.hid (by have e_ := hst.out; simp only [stopAt] at e_; rw [if_pos hq] at e_; exact e_)⟩
            case measure => simp [intOf]
          · have hb92 : ((s[j].toNat : Int) == 92) = false := by
              rw [beq_eq_false_iff_ne]; intro e_; exact hq (by rw [hgd]; exact UInt8.toNat_inj.mp (by have : (s[j].toNat : Int) = ((92 : UInt8).toNat : Int) := e_; omega))
            clear hgd
            have hks : stopAt s.data.toList n = (j + 1) := hst.out.symm.trans (by simp only [stopAt]; rw [if_neg hq])
            have HK := Lib.hid hks
            clear hks
            by_cases hp : (n - (j + 1)) % 2 = 0
            · have HV := Lib.hid (HE.out.trans (ofL_even HX.out HK.out hp))
              have hpb : (((n : Int) - (j + 1)) % 2 == 0) = true := by first | (rw [beq_iff_eq]; omega) | (rw [beq_eq_false_iff_ne]; omega)
              go_wp2_with (go_at_call 39; refine (writeString_l (w.heap.size + 1) pre s (j + 1 + (n - (j + 1)) / 2) _ HI.out (by omega) (by omega)).mono ?_; rintro e w1 ⟨rfl, h1, hb1⟩; have H1 := Lib.hid h1; clear h1; have hr1 := Lib.hid (res_cells HB.out (Nat.lt_succ_self _) hb1); have hz1 := hb1.size)
              have hw0 : IntKind.i64.wrap (↑n + 1) = (n : Int) + 1 := IntWalk.i64_in _ (by omega)
              have hw1 : (0 : Int) ≤ (n : Int) + 1 := by omega
              have hw2 : ((n : Int) + 1).toNat = n + 1 := by omega
              go_region_with (go_at_call 38; (refine (string_any (w.heap.size + 1) (w.heap.size + 1) (pre ++ s.data.toList.take (j + 1 + (n - (j + 1)) / 2)) w1.drew H1.out (show w.heap.size + 1 ≤ w1.heap.size by omega)).mono ?_); rintro e w2 ⟨rfl, hb2⟩; have hB2 := Lib.hid ((Below.drew (Below.refl _ _)).trans hb2); have hr2 := Lib.hid (res_cells hr1.out (Nat.lt_succ_self _) hB2.out); have c0 := (Lib.cell_of_heap hr2.out 0).trans rfl; have c1 := (Lib.cell_of_heap hr2.out 1).trans rfl; have c2 := (Lib.cell_of_heap hr2.out 2).trans rfl; have f0 := Lib.frozen_of_heap hr2.out 0; have f1 := Lib.frozen_of_heap hr2.out 1; have f2 := Lib.frozen_of_heap hr2.out 2)
              all_goals
                clear hw0 hw1 hw2
                go_wp2
                obtain ⟨rfl, rfl, rfl⟩ := of_end HR.out HV.out
                refine bodyPost_ret (v := .agg #[.bool true, .string ⟨(pre ++ s.data.toList.take ((j + 1) + (n - (j + 1)) / 2)).toArray⟩, .string ⟨(s.data.toList.drop (n + 1)).toArray⟩]) ?_ rfl ⟨rfl, ?_⟩
                · rw [← drop_eq]; simp [results, Try.results26, go_sem, c0, c1, c2]
                · exact ((hb.trans ((hb1.trans hB2.out).mono (by omega))).setCell (Nat.le_refl _) _ |>.setCell (Nat.le_refl _) _ |>.setCell (Nat.le_refl _) _)
            · have HV := Lib.hid (HE.out.trans (ofL_odd HX.out HK.out hp))
              have hpb : (((n : Int) - (j + 1)) % 2 == 0) = false := by first | (rw [beq_iff_eq]; omega) | (rw [beq_eq_false_iff_ne]; omega)
              go_wp2_with (go_at_call 39; refine (writeString_l (w.heap.size + 1) pre s (j + 1 + (n - (j + 1)) / 2) _ HI.out (by omega) (by omega)).mono ?_; rintro e w1 ⟨rfl, h1, hb1⟩; have H1 := Lib.hid h1; clear h1; have hr1 := Lib.hid (res_cells HB.out (Nat.lt_succ_self _) hb1); have hz1 := hb1.size)
              go_wp2_with (go_at_call 40; refine (writeByte_l (w.heap.size + 1) (pre ++ s.data.toList.take (j + 1 + (n - (j + 1)) / 2)) 37 _ rfl _ H1.out (by have h_ : (s.data.toList.length : Nat) = s.size := rfl; simp; omega) (by omega)).mono ?_; rintro e w2 ⟨rfl, h2, hb2⟩; have H2 := Lib.hid h2; clear h2)
              go_roundw
              case rel =>
                refine ⟨s.extract (n + 1) s.size, g, (pre ++ s.data.toList.take (j + 1 + (n - (j + 1)) / 2)) ++ [37], rfl, by simp; omega, H2.out, ?_, ?_, res_cells hr1.out (Nat.lt_succ_self _) hb2, hb.trans ((hb1.trans hb2).mono (by omega)), by have := hb2.size; omega⟩
                · have h_ : (s.data.toList.length : Nat) = s.size := rfl
                  simp; omega
                · rw [Lib.extract_to_end]; exact HV.out
              case measure => simp [strLen]; omega
end Go.Proofs.Ytlmabmpdbcgabaa.G
