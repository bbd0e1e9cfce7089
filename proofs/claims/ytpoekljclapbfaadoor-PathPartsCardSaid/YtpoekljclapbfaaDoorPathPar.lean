/- The reference's Parts: the walk of its code. -/
import Derived.Test.YtpoekljclapbfaaDoorPathRef
namespace Go.Proofs.YtpoekljclapbfaaDoor.G
open Go.RowKit
set_option linter.unusedVariables false

/-- does a part end at place k? -/
def endsAt (s : ByteArray) (k : Nat) : Bool := if h : k < s.size then (((s[k]'h).toNat : Int) == 47) else true
def scanP (s : ByteArray) : Nat → List ByteArray × Nat
  | 0 => ([], 0)
  | k + 1 => if endsAt s k = true then ((if (scanP s k).2 < k then (scanP s k).1 ++ [s.extract (scanP s k).2 k] else (scanP s k).1), k + 1) else scanP s k
theorem scan_from (s : ByteArray) : ∀ k, (scanP s k).2 ≤ k
  | 0 => Nat.le_refl _
  | k + 1 => by
    have := scan_from s k
    unfold scanP
    split
    · exact Nat.le_refl _
    · omega
theorem scan_len (s : ByteArray) : ∀ k, (scanP s k).1.length ≤ k
  | 0 => Nat.le_refl _
  | k + 1 => by
    have := scan_len s k
    unfold scanP
    split
    · show (if (scanP s k).2 < k then _ else _ : List ByteArray).length ≤ k + 1
      split
      · simp; omega
      · omega
    · omega
theorem scan_go (s : ByteArray) (k : Nat) (h : endsAt s k = false) : scanP s (k + 1) = scanP s k := by rw [scanP, if_neg (by rw [h]; decide)]
theorem scan_end (s : ByteArray) (k : Nat) (h : endsAt s k = true) : scanP s (k + 1) = ((if (scanP s k).2 < k then (scanP s k).1 ++ [s.extract (scanP s k).2 k] else (scanP s k).1), k + 1) := by rw [scanP, if_pos h]

set_option maxHeartbeats 4000000 in
set_option maxRecDepth 100000 in
theorem ref_Parts (s : ByteArray) (hs : s.size ≤ 1000000) (w : World) :
    Calls Tryd.prog 25 #[.string s] w fun e w' => ∃ v, e = .returned v ∧ w'.ownsRow w.heap.size 9 1 v (scanP s (s.size + 1)).1.length ((scanP s (s.size + 1)).1.map Value.string) ∧ Below w.heap.size w w' := by
  obtain ⟨i0, hi, hz0, hz1, hz2⟩ := info_parts str_info
  go_enter Tryd.func25, Tryd.ntmps25
  go_wp2
  go_loopw [3, 4, 5] (fun v3 v4 v5 wr => ∃ (i f : Nat) (pl : List ByteArray), i ≤ s.size + 1 ∧ v5 = .int .i64 i ∧ v4 = .int .i64 f ∧ f ≤ i ∧ pl.length ≤ i ∧ Hid (scanP s i = (pl, f)) ∧ Hid (wr.ownsRow w.heap.size 9 1 v3 pl.length (pl.map Value.string)) ∧ Hid (Below w.heap.size w wr)) (fun _ _ i _ => s.size + 1 - (intOf i).toNat)
  case atStart => exact ⟨0, 0, [], Nat.zero_le _, rfl, rfl, Nat.le_refl _, Nat.le_refl _, Lib.hid rfl, Lib.hid (World.ownsRow_nil _ _ _ _), Lib.hid (Below.refl _ _)⟩
  case round =>
    obtain ⟨i, f, pl, hin, rfl, rfl, hfi, hpi, HSC, HO, HB⟩ := hrel
    have HEND := Lib.hid (scan_end s i)
    have HGO := Lib.hid (scan_go s i)
    by_cases hlt : i < s.size
    · have HEA := Lib.hid (show endsAt s i = (((s[i]'hlt).toNat : Int) == 47) from by unfold endsAt; rw [dif_pos hlt])
      go_wp2_with (at_builtin; refine wpList_append_own _ rfl _ _ 26 rfl w.heap.size 9 i0 (.string ⟨#[]⟩) 1 16 Tryd.underlying26 hi hz0 hz1 hz2 rfl (by decide) _ _ _ rfl (HO.out.alloc _) ⟨_, 0, none⟩ 1 1 [.string (s.extract f i)] rfl rfl (one_new _ _ _) (by simp [Value.oneCell']) (by unfold maxLen; omega) (by omega) (by have := HB.out.size; simp; omega) ?_; intro v' w4 hown' hgr hnil; have HO' := Lib.hid hown'; have HB' := Lib.hid ((HB.out.alloc HB.out.size _).grown hgr (by have := HB.out.size; simp; omega) (fun j hj => (HO.out.lt j hj).1)); clear hown' hgr hnil)
      · have hE : endsAt s i = true := by rw [HEA.out]; exact (‹(_ == (_ : Int)) = true ∨ _›).resolve_left (by simp; omega)
        refine ⟨⟨i + 1, i + 1, pl ++ [s.extract f i], by omega, by go_num, by go_num, Nat.le_refl _, by simp; omega, Lib.hid ?_, Lib.hid (by simpa using HO'.out), HB'⟩, by simp [intOf]; omega⟩
        rw [HEND.out hE, HSC.out, if_pos ‹f < i›]
      · have hE : endsAt s i = true := by rw [HEA.out]; exact (‹(_ == (_ : Int)) = true ∨ _›).resolve_left (by simp; omega)
        refine ⟨⟨i + 1, i + 1, pl, by omega, by go_num, by go_num, Nat.le_refl _, by omega, Lib.hid ?_, HO, HB⟩, by simp [intOf]; omega⟩
        rw [HEND.out hE, HSC.out, if_neg ‹¬ f < i›]
      · have hE : endsAt s i = false := by rw [HEA.out]; exact (‹(_ == (_ : Int)) = false ∧ _›).2
        refine ⟨⟨i + 1, f, pl, by omega, by go_num, rfl, by omega, by omega, Lib.hid ?_, HO, HB⟩, by simp [intOf]; omega⟩
        rw [HGO.out hE, HSC.out]
    · rcases Nat.lt_or_ge s.size i with hgt | hge
      · go_wp2
        obtain rfl : i = s.size + 1 := by omega
        go_ret
        refine ⟨_, rfl, ?_, HB.out⟩
        rw [HSC.out]
        exact HO.out
      · obtain rfl : i = s.size := by omega
        have HEA := Lib.hid (show endsAt s s.size = true from by unfold endsAt; rw [dif_neg (Nat.lt_irrefl _)])
        go_wp2_with (at_builtin; refine wpList_append_own _ rfl _ _ 26 rfl w.heap.size 9 i0 (.string ⟨#[]⟩) 1 16 Tryd.underlying26 hi hz0 hz1 hz2 rfl (by decide) _ _ _ rfl (HO.out.alloc _) ⟨_, 0, none⟩ 1 1 [.string (s.extract f s.size)] rfl rfl (one_new _ _ _) (by simp [Value.oneCell']) (by unfold maxLen; omega) (by omega) (by have := HB.out.size; simp; omega) ?_; intro v' w4 hown' hgr hnil; have HO' := Lib.hid hown'; have HB' := Lib.hid ((HB.out.alloc HB.out.size _).grown hgr (by have := HB.out.size; simp; omega) (fun j hj => (HO.out.lt j hj).1)); clear hown' hgr hnil)
        · refine ⟨⟨s.size + 1, s.size + 1, pl ++ [s.extract f s.size], by omega, by go_num, by go_num, Nat.le_refl _, by simp; omega, Lib.hid ?_, Lib.hid (by simpa using HO'.out), HB'⟩, by simp [intOf]⟩
          rw [HEND.out HEA.out, HSC.out, if_pos ‹f < s.size›]
        · refine ⟨⟨s.size + 1, s.size + 1, pl, by omega, by go_num, by go_num, Nat.le_refl _, by omega, Lib.hid ?_, HO, HB⟩, by simp [intOf]⟩
          rw [HEND.out HEA.out, HSC.out, if_neg ‹¬ f < s.size›]
end Go.Proofs.YtpoekljclapbfaaDoor.G
