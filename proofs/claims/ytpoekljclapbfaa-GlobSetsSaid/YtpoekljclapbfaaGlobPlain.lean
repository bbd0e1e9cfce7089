/- What glob.Plain answers: each byte, or what a backslash quotes; and the walk of its code. -/
import Derived.Test.YtpoekljclapbfaaBldL
import Derived.Test.YtpoekljclapbfaaP0x1
import Derived.WalkKit
import Derived.BigCall
import Derived.Deep.LoopGhost
import Derived.Outline
namespace Go.Proofs.Ytpoekljclapbfaa.G
open Go.RowKit Go.Proofs.Ytpoekljclapbfaa.P0 Go.Proofs.YtpoekljclapbfaaW.PrintWords

/-- A pattern without what quotes. -/
def plainL : List UInt8 → List UInt8
  | [] => []
  | [c] => [c]
  | c :: d :: r => if c = 92 then d :: plainL r else c :: plainL (d :: r)

def glob_Plain.f (a0 : ByteArray) : Option (ByteArray) :=
  if a0.size ≤ 140737488355327 then some ⟨(plainL a0.data.toList).toArray⟩ else none

/-- What unit answers of a text that begins so. -/
def firstOf : List UInt8 → UInt8 × Nat
  | [] => (0, 0)
  | [c] => (c, 1)
  | c :: d :: _ => if c = 92 then (d, 2) else (c, 1)

theorem first_le (l : List UInt8) : (firstOf l).2 ≤ l.length := by
  match l with
  | [] => exact Nat.le_refl _
  | [c] => exact Nat.le_refl _
  | c :: d :: r => simp only [firstOf]; split <;> simp
theorem first_pos (l : List UInt8) (h : l ≠ []) : 1 ≤ (firstOf l).2 := by
  match l with
  | [] => exact absurd rfl h
  | [c] => exact Nat.le_refl _
  | c :: d :: r => simp only [firstOf]; split <;> simp
theorem plain_first (l : List UInt8) (h : l ≠ []) : plainL l = (firstOf l).1 :: plainL (l.drop (firstOf l).2) := by
  match l with
  | [] => exact absurd rfl h
  | [c] => rfl
  | c :: d :: r => simp only [plainL, firstOf]; split <;> simp

theorem bt_cons0 {s : ByteArray} {c : UInt8} {r : List UInt8} (h : s.data.toList = c :: r) : bt s 0 = (c.toNat : Int) := by
  obtain ⟨⟨l⟩⟩ := s
  simp only at h
  subst h
  rfl
theorem bt_cons1 {s : ByteArray} {c d : UInt8} {r : List UInt8} (h : s.data.toList = c :: d :: r) : bt s 1 = (d.toNat : Int) := by
  obtain ⟨⟨l⟩⟩ := s
  simp only at h
  subst h
  rfl
theorem size_cons {s : ByteArray} {l : List UInt8} (h : s.data.toList = l) : s.size = l.length := by
  rw [← h]; rfl
theorem ne92 {c : UInt8} (h : ¬ c = 92) : ¬ ((c.toNat : Int) = 92) := by
  intro e; exact h (UInt8.toNat_inj.mp (by have : (c.toNat : Int) = ((92 : UInt8).toNat : Int) := e; omega))

theorem unit_is (s : ByteArray) (h : s.data.toList ≠ []) : glob_unit.f s = some (((firstOf s.data.toList).1.toNat : Int), ((firstOf s.data.toList).2 : Int)) := by
  generalize hl : s.data.toList = l at h
  have hz := size_cons hl
  match l, hl with
  | [], _ => exact absurd rfl h
  | [c], hl =>
    unfold glob_unit.f
    rw [bt_cons0 hl, hz]
    simp only [List.length_singleton, firstOf]
    rw [if_pos (by decide)]
    split <;> simp
  | c :: d :: r, hl =>
    unfold glob_unit.f
    rw [bt_cons0 hl, bt_cons1 hl, hz]
    simp only [List.length_cons, firstOf]
    rw [if_pos (by omega)]
    by_cases h92 : c = 92
    · rw [if_pos (by rw [h92]; rfl), if_pos (by omega), if_pos (by omega), if_pos h92]; rfl
    · rw [if_neg (ne92 h92), if_neg h92]; rfl

def strLen : Value → Nat
  | .string s => s.size
  | _ => 0

def PlRel (s0 : ByteArray) (w : World) (sv : Value) (wr : World) : Prop :=
  ∃ (s : ByteArray) (pre : List UInt8), sv = .string s ∧ Lib.IsBuilder 49 5 w.heap.size w.heap.size (Lib.byteCells pre) wr ∧ pre.length + s.size ≤ s0.size ∧ plainL s0.data.toList = pre ++ plainL s.data.toList ∧
    Below w.heap.size w wr ∧ w.heap.size ≤ wr.heap.size

set_option maxHeartbeats 4000000 in
set_option maxRecDepth 100000 in
theorem glob_Plain.calls (a0 : ByteArray) (r : ByteArray) (w : World) (h : glob_Plain.f a0 = some r) :
    Calls Try.prog 13 #[.string a0] w fun e w' => e = .returned (.string r) ∧ Below w.heap.size w w' := by
  unfold glob_Plain.f at h
  split at h
  case isFalse => exact absurd h (by simp)
  case isTrue hs =>
  have HR := Lib.hid (Option.some.inj h)
  clear h
  go_enter Try.func13, Try.ntmps13
  go_wp2
  go_loopw [0] (fun sv wr => PlRel a0 w sv wr) (fun sv _ => strLen sv)
  case atStart =>
    exact ⟨a0, [], rfl, Lib.fresh_isBuilder 49 5 w, by simp, rfl, (Below.refl _ _).alloc (Nat.le_refl _) _, by simp⟩
  case round =>
    obtain ⟨s, pre, rfl, hI, hl, hE, hb, hsz⟩ := hrel
    have HE := Lib.hid hE
    have HI := Lib.hid hI
    clear hE hI
    by_cases h0 : s.data.toList = []
    · have ht : s.toList = [] := (Lib.toList_data s).trans h0
      have H0 := Lib.hid h0
      clear h0
      go_wp2_with (first | (go_at_call 23; refine (string_any w.heap.size w.heap.size pre _ HI.out (by omega)).mono ?_; rintro e w1 ⟨rfl, hb1⟩))
      go_ret
      obtain rfl := HR.out
      refine ⟨?_, hb.trans hb1⟩
      rw [HE.out, H0.out]
      simp [plainL]
    · have hu := Lib.hid (unit_is s h0)
      have hf := first_le s.data.toList
      have hf1 := first_pos s.data.toList h0
      have hp := Lib.hid (plain_first s.data.toList h0)
      have hss : s.data.toList.length = s.size := rfl
      have ht : (!s.toList.isEmpty) = true := by
        rw [Lib.toList_data]
        cases hz_ : s.data.toList with
        | nil => exact absurd hz_ h0
        | cons a b => rfl
      generalize hN : (firstOf s.data.toList).2 = N at hu hf hf1 hp
      generalize hC : (firstOf s.data.toList).1 = C at hu hp
      clear hN hC h0
      go_wp2_with (first | (go_at_call 21; refine (glob_unit.calls s (C.toNat : Int) (N : Int) _ hu.out).mono ?_; rintro e w' ⟨rfl, ⟨nd, rfl⟩⟩) | (go_at_call 22; refine (writeByte_l w.heap.size pre C _ rfl (wr.drewN nd) HI.out (by omega) hsz).mono ?_; rintro e w1 ⟨rfl, h1, hb1⟩; have H1 := Lib.hid h1; clear h1))
      go_roundw
      case rel =>
        have hz1 := hb1.size
        refine ⟨s.extract N s.size, pre ++ [C], rfl, H1.out, ?_, ?_, (pw_below_drewN hb nd).trans hb1, Nat.le_trans hsz hz1⟩
        · simp; omega
        · rw [Lib.extract_to_end, HE.out, hp.out]; simp
      case measure => simp [strLen]; omega
end Go.Proofs.Ytpoekljclapbfaa.G
