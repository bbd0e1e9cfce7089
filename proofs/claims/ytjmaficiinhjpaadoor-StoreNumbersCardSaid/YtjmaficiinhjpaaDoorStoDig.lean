/- store.digits walked. -/
import Derived.Test.YtjmaficiinhjpaaDoorStoOps
import Derived.Shelf.Strings.SlTrimAscii
namespace Go.Proofs.YtjmaficiinhjpaaDoor.G
open Go.RowKit Go.Maps Go.Sort

def tenB : List UInt8 := [48, 49, 50, 51, 52, 53, 54, 55, 56, 57]
def digitsB (s : ByteArray) : Bool := !s.data.toList.isEmpty && s.data.toList.all (tenB.contains ·)
theorem dropWhile_nil {α : Type} (p : α → Bool) : ∀ l : List α, l.dropWhile p = [] ↔ l.all p = true
  | [] => by simp
  | a :: l => by
    rw [List.dropWhile_cons, List.all_cons]
    cases h : p a
    · simp
    · simpa using dropWhile_nil p l
theorem all_split {α : Type} (p : α → Bool) (l : List α) : l.all p = (l.dropWhile p).all p := by
  induction l with
  | nil => rfl
  | cons a l ih =>
    rw [List.dropWhile_cons]
    cases h : p a
    · simp [h]
    · simpa [h] using ih
theorem trim_nil (l cs : List UInt8) : (Lib.trimS l cs = []) ↔ l.all (cs.contains ·) = true := by
  unfold Lib.trimS Lib.trimLeftS Lib.trimRightS
  rw [dropWhile_nil, List.all_reverse, ← all_split, List.all_reverse]

set_option maxHeartbeats 2000000 in
set_option maxRecDepth 100000 in
theorem digits_calls (s : ByteArray) (w : World) (hs : s.size ≤ 9223372036854775807) :
    Calls Tryd.prog 25 #[.string s] w fun e w' => e = .returned (.bool (digitsB s)) ∧ Below w.heap.size w w' := by
  have hT := Lib.hid (fun w => Any.strings_Trim_laid Tryd.lays160 (by kernel_rfl) s ⟨#[48, 49, 50, 51, 52, 53, 54, 55, 56, 57]⟩ w hs (by decide) (ascii_of_all (by decide)))
  by_cases h0 : s = ⟨#[]⟩
  · subst h0
    clear hT
    go_enter Tryd.func25, Tryd.ntmps25
    go_wp2
    go_ret
    exact ⟨rfl, Below.refl _ _⟩
  · have h1 : s.data.toList.isEmpty = false := by
      cases h : s.data.toList with
      | nil =>
        exact absurd (show s = ⟨#[]⟩ by
          rcases s with ⟨a⟩
          have : a = #[] := Array.toList_inj.mp (by simpa using h)
          rw [this]) h0
      | cons => rfl
    have hne : s.toList.isEmpty = false := by rw [Lib.toList_data]; exact h1
    have hd : digitsB s = (Lib.trimS s.data.toList tenB).isEmpty := by
      unfold digitsB
      rw [h1, Bool.eq_iff_iff, List.isEmpty_iff, trim_nil]; simp
    rw [hd]
    have HNE := Lib.hid hne
    clear hd h1 hne
    go_enter Tryd.func25, Tryd.ntmps25
    go_wp2_with (go_at_call 36; refine (hT.out _).mono ?_; rintro e w1 ⟨rfl, hB⟩; have HB := Lib.hid hB; clear hB)
    · rename_i hx
      have := HNE.out
      rw [hx] at this
      exact absurd this (by decide)
    · rw [HNE.out]
      go_ret
      exact ⟨rfl, HB.out⟩
end Go.Proofs.YtjmaficiinhjpaaDoor.G
