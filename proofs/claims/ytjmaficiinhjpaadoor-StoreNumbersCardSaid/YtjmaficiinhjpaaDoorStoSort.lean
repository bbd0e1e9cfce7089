/- store.All's comparator; slices.SortFunc at the variables. -/
import Derived.Test.YtjmaficiinhjpaaDoorStoSorted
import Derived.Test.YtjmaficiinhjpaaDoorSort
import Derived.Shelf.SlSortCmp.WholeK
namespace Go.Proofs.YtjmaficiinhjpaaDoor.G
open Go.RowKit Go.Maps Go.Sort Go.Shelf Go.Lib

def cmpV (x y : Vr) : Int := Lib.compareBytes x.name.data.toList y.name.data.toList
set_option maxHeartbeats 1000000 in
theorem cmp_calls (x y : Vr) (W : World) : Calls Tryd.prog 33 #[.agg x.cells.toArray, .agg y.cells.toArray] W fun e w' => e = .returned (.int .i64 (cmpV x y)) ∧ ∃ q os', w' = grow (W.drewN q) os' := by
  have hcon := fun W' => Tryd.strings_Compare x.name y.name W'
  unfold cmpV
  simp only [Vr.cells]
  generalize Lib.compareBytes x.name.data.toList y.name.data.toList = r at hcon ⊢
  go_enter Tryd.func33, Tryd.ntmps33
  go_wp2_with (go_at_call 34; refine (hcon _).mono ?_; rintro e w' ⟨rfl, rfl⟩)
  go_ret
  exact ⟨rfl, 0, _, by rw [alloc_eq_grow, alloc_eq_grow, grow_grow]; rfl⟩
instance : Inhabited Vr := ⟨zeroV⟩
theorem cmp_neg : ∀ a b : List UInt8, Lib.compareBytes a b < 0 ↔ a < b
  | [], [] => by simp [Lib.compareBytes]
  | [], _ :: _ => by simp [Lib.compareBytes]
  | _ :: _, [] => by simp [Lib.compareBytes]
  | x :: a, y :: b => by
    rw [List.cons_lt_cons_iff]
    have ih := cmp_neg a b
    unfold Lib.compareBytes
    by_cases h1 : x < y
    · simp [h1]
    · by_cases h2 : y < x
      · have : ¬ x = y := fun e => by subst e; exact h1 h2
        simp [h1, h2, this]
      · have e : x = y := UInt8.le_antisymm (UInt8.not_lt.mp h2) (UInt8.not_lt.mp h1)
        simp [e, ih]
theorem lt_cmpV (x y : Vr) : ltOf cmpV x y = decide (ltN x.name y.name) := by
  unfold ltOf cmpV ltN
  rw [Lib.toList_data, Lib.toList_data, Bool.eq_iff_iff, decide_eq_true_iff, decide_eq_true_iff]
  exact cmp_neg _ _
theorem swo_cmpV : SWO (ltOf cmpV) where
  irrefl x := by rw [lt_cmpV]; exact decide_eq_false (ltN_irrefl _)
  trans x y z h1 h2 := by rw [lt_cmpV] at *; exact decide_eq_true (ltN_trans (of_decide_eq_true h1) (of_decide_eq_true h2))
  ntrans x y z h1 h2 := by
    rw [lt_cmpV] at *
    refine decide_eq_false (fun h => ?_)
    rcases ltN_tri x.name y.name with h3 | h3 | h3
    · exact of_decide_eq_false h1 h3
    · rw [h3] at h; exact of_decide_eq_false h2 h
    · exact of_decide_eq_false h2 (ltN_trans h3 h)
theorem isAgg_var (w : World) : (isAgg 27).run Tryd.prog w = .ok true w := by kernel_rfl
theorem sizeOf_var (w : World) : (Go.sizeOf 27).run Tryd.prog w = .ok 4 w := by kernel_rfl
theorem sort_calls (blk cap : Nat) (d : Array Vr) (w : World) (hH : HoldsK Vr.cells 4 w blk 0 d) (hblk : blk < w.heap.size) (hsz : d.size < 4611686018427387904) (G : List Vr) (hG : RisesV G) (hp : d.toList.Perm G) :
    Calls Tryd.prog 32 #[.slice (some ⟨blk, 0, none⟩) d.size cap, .func (.func 33) #[] #[]] w fun e w' => e = .returned (.tuple #[]) ∧ ∃ n os, w' = sortWorldK Vr.cells 4 w blk 0 n G.toArray os := by
  have hcon := AnyQ.slices_SortFunc Tryd.sortFn 4 isAgg_var sizeOf_var Vr.cells (fun _ => rfl) (fun x v hv => by simp [Vr.cells] at hv; rcases hv with rfl | rfl | rfl | rfl <;> rfl) cmpV swo_cmpV 33 #[] blk 0 cap d w
    (enters_of Tryd.func33 (by kernel_rfl) rfl) (fun _ _ _ _ x y => cmp_calls x y _) hH hblk hsz
  change Calls Tryd.prog 32 _ _ _ at hcon
  refine hcon.mono ?_
  rintro e w' ⟨rfl, d', n, os, ⟨h1, h2, h3⟩, hs, rfl⟩
  refine ⟨rfl, n, os, ?_⟩
  have e1 : d'.toList = G := by
    refine sorted_is G d'.toList ?_ ?_ hG
    · rw [Array.extract_eq_self_of_le (by omega), Array.extract_eq_self_of_le (Nat.le_refl _)] at h3
      exact h3.trans hp
    · rw [List.pairwise_iff_getElem]
      intro i j hi hj hij hlt
      have hj' : j < d'.size := by simpa using hj
      have := hs i j (Nat.zero_le _) hij (by omega)
      rw [lt_cmpV, getElem!_pos d' j hj', getElem!_pos d' i (by omega)] at this
      exact of_decide_eq_false this (by simpa using hlt)
  rw [← e1]
end Go.Proofs.YtjmaficiinhjpaaDoor.G
