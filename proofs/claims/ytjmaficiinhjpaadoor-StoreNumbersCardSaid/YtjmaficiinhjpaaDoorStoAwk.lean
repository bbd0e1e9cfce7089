/- law17.awake walked. -/
import Derived.Test.YtjmaficiinhjpaaDoorStoKs
namespace Go.Proofs.YtjmaficiinhjpaaDoor.G
open Go.RowKit Go.Maps Go.WideMaps Go.Sort

/-! ### awake -/
def v1 : Vr := ⟨⟨#[49]⟩, ⟨#[120]⟩, 0, 0⟩
def va : Vr := ⟨⟨#[97]⟩, ⟨#[121]⟩, 0, 0⟩
theorem lit_vars {w : World} {b : Nat} {cs : Array Value} {t : TypeId} {l : List Vr} (h : w.heap[b]? = some (.cells cs t (0, 0))) (hl : cs.toList = varsV l) : VarsAt w (some ⟨b, 0, none⟩) l := by
  intro hp
  refine ⟨b, 0, rfl, lt_heap h, fun j v hj => ?_⟩
  have h4 := varsV_at l j v hj
  have hc : ∀ c, c < 4 → w.cell? ⟨b, 0 + (j * 4 + c), none⟩ = v.cells[c]? := fun c hc => by
    rw [Nat.zero_add, cell_of_block h, ← Array.getElem?_toList, hl]; exact h4 c hc
  have e : ∀ c, 0 + j * 4 + c = 0 + (j * 4 + c) := fun c => by omega
  exact ⟨by have := hc 0 (by omega); exact this, by have := hc 1 (by omega); rw [e]; exact this, by have := hc 2 (by omega); rw [e]; exact this, by have := hc 3 (by omega); rw [e]; exact this⟩
theorem fold_two : foldG [v1, va] = [v1, va] := by
  show setG (setG [] v1) va = _
  have h1 : setG [] v1 = [v1] := rfl
  rw [h1, setG, if_neg (by decide), if_pos (by unfold ltN; rw [Lib.toList_data, Lib.toList_data]; decide)]
  rfl
theorem aw_1 : getX (foldG [v1, va]) [([], true)] ⟨#[49]⟩ = (zeroV, false) := by
  rw [fold_two]
  have : digitsB ⟨#[49]⟩ = true := by decide
  simp [getX, downX, lookL, this]
theorem aw_2 : getX (foldG [v1, va]) [([], true)] ⟨#[97]⟩ = (va, true) := by
  rw [fold_two]
  have : digitsB ⟨#[97]⟩ = false := by decide
  have h2 : lookL [v1, va] ⟨#[97]⟩ = some va := rfl
  unfold getX
  rw [h2]
  simp [downX, lookL, this]
theorem aw_3 : getX (foldG [v1, va]) [] ⟨#[49]⟩ = (v1, true) := by
  rw [fold_two]; rfl
theorem aw_t : wrap64 (wrap64 (0 + 1) + 1) = 2 := by unfold wrap64; omega
theorem names_two : Names [v1, va] := by
  intro v hv
  simp only [List.mem_cons, List.not_mem_nil, or_false] at hv
  rcases hv with rfl | rfl <;> (show 1 ≤ maxLen; unfold maxLen; omega)
theorem new_two (w : World) : Calls Tryd.prog 7 #[.slice (some ⟨w.heap.size, 0, none⟩) 2 2] (w.alloc (.cells #[.string ⟨#[49]⟩, .string ⟨#[120]⟩, .int .i64 0, .int .i64 0, .string ⟨#[97]⟩, .string ⟨#[121]⟩, .int .i64 0, .int .i64 0] 27))
    fun e w' => ∃ sb, e = .returned (.pointer (some ⟨sb, 0, none⟩)) ∧ Sk (w.heap.size + 1) w' sb 2 (foldG [v1, va]) [] 0 [] ∧ Below w.heap.size w w' := by
  refine (New_sk [v1, va] _ 2 _ (lit_vars (heap_alloc_new w _) rfl) (by simp) names_two).mono ?_
  rintro e w' ⟨sb, rfl, hS, hB⟩
  refine ⟨sb, rfl, by simpa using hS, ((Below.refl _ w).alloc (Nat.le_refl _) _).trans (hB.mono (by simp))⟩
set_option maxHeartbeats 400000 in
set_option maxRecDepth 100000 in
theorem awake_calls (w : World) : Calls Tryd.prog 14 #[] w fun e w' => e = .returned (.bool true) ∧ Below w.heap.size w w' := by
  have hl := fold_two
  have HL : Hid ((foldG [v1, va]).length = 2) := Lib.hid (by rw [hl]; rfl)
  clear hl
  have n1 : va.val = ⟨#[121]⟩ := rfl
  have n2 : v1.val = ⟨#[120]⟩ := rfl
  have T1 : Hid True := Lib.hid trivial
  have T2 : Hid True := Lib.hid trivial
  have T3 : Hid True := Lib.hid trivial
  go_enter Tryd.func14, Tryd.ntmps14
  go_wp2_with (first
    | (go_at_call 7; refine (new_two w).mono ?_; rintro e w1 ⟨sb, rfl, hS, hB⟩; have HS := Lib.hid hS; have HB := Lib.hid hB; clear hS hB)
    | (go_at_call 10; refine (Push_sk HS.out (by simp) [] none 0 true (fun h => absurd h (by simp)) (fun _ _ h => by cases h) (by simp) (fun v hv => absurd hv (by simp))).mono ?_; rintro e w2 ⟨rfl, hS, hB⟩; have HS := Lib.hid hS; have HB := Lib.hid (HB.out.trans (hB.mono (by omega))); clear hS hB)
    | (go_at_call 11; clear T1; refine (Get_sk HS.out _ (by show 1 ≤ maxLen; unfold maxLen; omega) aw_1).mono ?_; rintro e w3 ⟨rfl, hS, hB⟩; have HS := Lib.hid (hS.keep (boxO zeroV)); have HB := Lib.hid ((HB.out.trans (hB.mono HB.out.size)).alloc (HB.out.trans (hB.mono HB.out.size)).size (boxO zeroV)); clear hS hB)
    | (go_at_call 11; clear T2; refine (Get_sk HS.out _ (by show 1 ≤ maxLen; unfold maxLen; omega) aw_2).mono ?_; rintro e w4 ⟨rfl, hS, hB⟩; have HS := Lib.hid (hS.keep (boxO va)); have HB := Lib.hid ((HB.out.trans (hB.mono HB.out.size)).alloc (HB.out.trans (hB.mono HB.out.size)).size (boxO va)); clear hS hB)
    | (go_at_call 12; refine (Pop_sk HS.out).mono ?_; rintro e w5 ⟨rfl, hS, hB⟩; have HS := Lib.hid hS; have HB := Lib.hid (HB.out.trans (hB.mono (by omega))); clear hS hB)
    | (go_at_call 11; clear T3; refine (Get_sk HS.out _ (by show 1 ≤ maxLen; unfold maxLen; omega) aw_3).mono ?_; rintro e w6 ⟨rfl, hS, hB⟩; have HS := Lib.hid (hS.keep (boxO v1)); have HB := Lib.hid ((HB.out.trans (hB.mono HB.out.size)).alloc (HB.out.trans (hB.mono HB.out.size)).size (boxO v1)); obtain ⟨_, x2, _, _⟩ := hS.box (b := w4.heap.size) (v := va) (by simp); have z4 := lt_heap (hS.at (b := w4.heap.size) (o := boxO va) (by simp)); clear hS hB)
    | (go_at_call 22; refine (All_sk HS.out (by rw [HL.out]; omega)).mono ?_; rintro e w7 ⟨A, c, rfl, hv, hS, hB⟩; have HS := Lib.hid hS; have HB := Lib.hid (HB.out.trans (hB.mono HB.out.size)); rw [HL.out]; clear hv hS hB)
    | (go_at_call 13; refine (Turns_sk (t := 2) (by have h := HS.out; rw [aw_t] at h; exact h)).mono ?_; rintro e w8 ⟨rfl, rfl⟩))
  go_ret
  exact ⟨rfl, HB.out⟩
end Go.Proofs.YtjmaficiinhjpaaDoor.G
