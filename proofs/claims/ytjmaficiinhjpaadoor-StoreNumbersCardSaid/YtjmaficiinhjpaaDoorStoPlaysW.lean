/- wainwrightlaw17.StorePlays, StoreNumbers: what both share: FewVars, the reference's New, both made. -/
import Derived.Test.YtjmaficiinhjpaaDoorStoStep
namespace Go.Proofs.YtjmaficiinhjpaaDoor.G
open Go.RowKit Go.Maps Go.WideMaps Go.Sort

theorem foldG_len (l : List Vr) : (foldG l).length ≤ l.length := by
  generalize hn : l.length = n
  induction n generalizing l with
  | zero =>
    obtain rfl := List.length_eq_zero_iff.mp hn
    simp [foldG]
  | succ n ih =>
    obtain ⟨a, v, rfl⟩ : ∃ a v, l = a ++ [v] := ⟨l.dropLast, l.getLast (by intro h; rw [h] at hn; simp at hn), (List.dropLast_concat_getLast _).symm⟩
    have h1 := ih a (by simp at hn; omega)
    rw [foldG_snoc]
    have := setG_len (foldG a) v
    omega
def smallV (v : Vr) : Bool := decide (v.name.size ≤ 100) && decide (v.val.size ≤ 1000)
def fewB (l : List Vr) : Bool := (l.take 30).all smallV && decide (l.length ≤ 30)
set_option maxHeartbeats 2000000 in
theorem few_calls (l : List Vr) (A : Option Addr) (c : Nat) (w : World) (hL : VarsAt w A l) (hl : l.length ≤ maxLen) (hs : ∀ v ∈ l, v.name.size ≤ maxLen ∧ v.val.size ≤ maxLen) :
    Calls Tryd.prog 15 #[.slice A l.length c] w fun e w' => e = .returned (.bool (fewB l)) ∧ w = w' := by
  have HL := Lib.hid hL
  have HS := Lib.hid hs
  unfold maxLen at hl
  clear hL hs
  go_enter Tryd.func15, Tryd.ntmps15
  go_wp2
  go_loop [3] (fun i => ∃ k : Nat, k ≤ l.length ∧ k ≤ 30 ∧ i = .int .i64 k ∧ Hid ((l.take k).all smallV = true)) (fun i => 30 - (intOf i).toNat)
  case atStart => exact ⟨0, Nat.zero_le _, Nat.zero_le _, rfl, Lib.hid rfl⟩
  case round =>
    obtain ⟨k, hk, hk2, rfl, HA⟩ := hrel
    by_cases hin : k < l.length ∧ k < 30
    · obtain ⟨h1, h2⟩ := hin
      obtain ⟨v, hv⟩ : ∃ v, l[k]? = some v := ⟨_, List.getElem?_eq_getElem h1⟩
      obtain ⟨b, off, rfl, hz, hc⟩ := HL.out (by omega)
      obtain ⟨c0, c1, _, _⟩ := hc k v hv
      obtain ⟨s0, s1⟩ := HS.out v (List.mem_of_getElem? hv)
      unfold maxLen at s0 s1
      have HT := Lib.hid (take_at hv)
      have HF : Hid (smallV v = false → fewB l = false) := Lib.hid (fun hf => by
        unfold fewB
        rw [Bool.and_eq_false_iff]
        refine Or.inl (List.all_eq_false.mpr ⟨v, ?_, by rw [hf]; simp⟩)
        exact List.mem_of_getElem? (i := k) (by rw [List.getElem?_take, if_pos h2]; exact hv))
      clear hc hv
      by_cases hb : v.name.size ≤ 100 ∧ v.val.size ≤ 1000
      · obtain ⟨hb1, hb2⟩ := hb
        have g1 : ¬ ((100 : Int) < (v.name.size : Int)) := by omega
        have g2 : ¬ ((1000 : Int) < (v.val.size : Int)) := by omega
        go_wp2
        go_round
        case rel => exact ⟨k + 1, by omega, by omega, by go_num, Lib.hid (by rw [HT.out, List.all_append, HA.out]; simp [smallV, hb1, hb2])⟩
        case measure => simp [intOf]; omega
      · have hsv : smallV v = false := by
          unfold smallV
          rcases (show ¬ v.name.size ≤ 100 ∨ ¬ v.val.size ≤ 1000 by omega) with h | h <;> simp [h]
        have HB := Lib.hid (HF.out hsv)
        clear hsv
        rcases (show 100 < v.name.size ∨ (¬ 100 < v.name.size ∧ 1000 < v.val.size) by omega) with h | ⟨h, h'⟩
        · have g1 : ((100 : Int) < (v.name.size : Int)) := by omega
          go_wp2
          go_ret
          exact ⟨by rw [HB.out]; rfl, rfl⟩
        · have g1 : ¬ ((100 : Int) < (v.name.size : Int)) := by omega
          have g2 : ((1000 : Int) < (v.val.size : Int)) := by omega
          go_wp2
          go_ret
          exact ⟨by rw [HB.out]; rfl, rfl⟩
    · have hout : l.length ≤ k ∨ (k < l.length ∧ 30 ≤ k) := by omega
      have HFB : Hid (fewB l = decide (l.length ≤ 30)) := Lib.hid (by
        unfold fewB
        have : (l.take 30).all smallV = true := by
          rcases hout with h | ⟨h, h2⟩
          · have h3 := HA.out
            rw [List.take_of_length_le h] at h3
            rw [List.take_of_length_le (by omega)]; exact h3
          · obtain rfl : k = 30 := by omega
            exact HA.out
        rw [this]; rfl)
      rcases hout with h | ⟨h, h2⟩
      · have g : ((l.length : Int) ≤ 30) := by omega
        have gd : decide (l.length ≤ 30) = true := decide_eq_true (by omega)
        go_wp2
        go_ret
        exact ⟨by rw [HFB.out, gd]; simp, rfl⟩
      · have gd : decide (l.length ≤ 30) = false := decide_eq_false (by omega)
        have g : ¬ ((l.length : Int) ≤ 30) := by omega
        go_wp2
        go_ret
        exact ⟨by rw [HFB.out, gd]; simp, rfl⟩

/-! ### the reference's New -/
set_option maxHeartbeats 4000000 in
set_option maxRecDepth 100000 in
theorem rnew_calls (l : List Vr) (A : Option Addr) (c : Nat) (w : World) (hL : VarsAt w A l) (hl : l.length ≤ 900) :
    Calls Tryd.prog 16 #[.slice A l.length c] w fun e w' => ∃ rb B, e = .returned (.pointer (some ⟨rb, 0, none⟩)) ∧ RefS w.heap.size w' rb B (foldG l) [] 0 ∧ Below w.heap.size w w' := by
  have HL := Lib.hid hL
  clear hL
  go_enter Tryd.func16, Tryd.ntmps16
  go_wp2
  go_loopw [4] (fun i wr => ∃ (k : Nat) (B : Nat → Prop) (t : Int), k ≤ l.length ∧ i = .int .i64 k ∧ Hid (RefS w.heap.size wr w.heap.size B (foldG (l.take k)) [] t) ∧ Hid (Below w.heap.size w wr)) (fun i _ => l.length - (intOf i).toNat)
  case atStart =>
    have hb := heap_alloc_new w (.cells #[.slice none 0 0, .slice none 0 0, .slice none 0 0, .int .i64 0] 66)
    refine ⟨0, fun _ => False, 0, Nat.zero_le _, rfl, Lib.hid ⟨none, none, none, 0, 0, 0, ⟨?_, ?_, ?_, ?_, frozen_of_block hb, frozen_of_block hb, frozen_of_block hb, frozen_of_block hb, ⟨Src.nil _ _ _, fun h => absurd h (by simp [foldG])⟩, ⟨Src.nil _ _ _, fun h => absurd h (by simp)⟩, ⟨Src.nil _ _ _, fun h => absurd h (by simp)⟩, fun f hf => absurd hf (by simp), by unfold maxLen; simp [foldG], by unfold maxLen; simp, by unfold maxLen; simp, Nat.le_refl _, by simp, fun h => h, fun k h => h.elim, by simp, by simp [foldG]⟩⟩, Lib.hid ((Below.refl _ _).alloc (Nat.le_refl _) _)⟩
    · rw [cell_of_block hb]; rfl
    · rw [cell_of_block hb]; rfl
    · rw [cell_of_block hb]; rfl
    · rw [cell_of_block hb]; rfl
  case round =>
    obtain ⟨k, B, t, hk, rfl, HR, HB⟩ := hrel
    obtain ⟨gA, fA, cA, gc, fc, cc, hR⟩ := HR.out
    by_cases hlt : k < l.length
    · obtain ⟨v, hv⟩ : ∃ v, l[k]? = some v := ⟨_, List.getElem?_eq_getElem hlt⟩
      obtain ⟨b, off, rfl, hz, hc⟩ := HL.out (by omega)
      obtain ⟨c0, c1, c2, c3⟩ := hc k v hv
      have e0 := (HB.out.cell (p := ⟨b, off + k * 4, none⟩) (by exact hz)).trans c0
      have e1 := (HB.out.cell (p := ⟨b, off + k * 4 + 1, none⟩) (by exact hz)).trans c1
      have e2 := (HB.out.cell (p := ⟨b, off + k * 4 + 2, none⟩) (by exact hz)).trans c2
      have e3 := (HB.out.cell (p := ⟨b, off + k * 4 + 3, none⟩) (by exact hz)).trans c3
      have HT := Lib.hid (show foldG (l.take (k + 1)) = setG (foldG (l.take k)) v by rw [take_at hv, foldG_snoc])
      have HGL : Hid ((foldG (l.take k)).length < 1000) := Lib.hid (by have := foldG_len (l.take k); have h2 := List.length_take_le k l; omega)
      have HRV := Lib.hid hR
      clear hc hv c0 c1 c2 c3 hR
      go_wp2_with (go_at_call 26; refine (RSet.calls HRV.out (foldG_is _).1 HGL.out v).mono ?_; rintro e w2 ⟨rfl, B2, hS, hB2, hA⟩; have HS2 := Lib.hid hS; have HA2 := Lib.hid hA; clear hS hB2 hA)
      go_roundw
      case rel => exact ⟨k + 1, B2, _, by omega, by go_num, Lib.hid (by rw [HT.out]; exact HS2.out), Lib.hid (HB.out.trans (HA2.out.below HB.out.size (fun j hj => by rw [hj]; exact Nat.le_refl _)))⟩
      case measure => simp [intOf]; omega
    · obtain rfl : k = l.length := by omega
      have HRV := Lib.hid hR
      have hRc := hR.counted 0
      rw [List.take_length] at hRc
      have c3 := hR.c3
      have f3 := hR.f3
      have HRC := Lib.hid hRc
      clear hR hRc
      go_wp2
      go_ret
      exact ⟨w.heap.size, B, rfl, ⟨_, _, _, _, _, _, HRC.out⟩, HB.out.setCell (Nat.le_refl _) _⟩
end Go.Proofs.YtjmaficiinhjpaaDoor.G
