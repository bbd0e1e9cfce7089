/- wainwrightref03.fits. -/
import Derived.Test.YtpoekljclapbfaaGsT
namespace Go.Proofs.Ytpoekljclapbfaa.Gs
open Go.RowKit Go.Proofs.Ytpoekljclapbfaa.PR Go.Proofs.Ytpoekljclapbfaa.G Go.Proofs.Ytpoekljclapbfaa.P0 Go.Proofs.YtpoekljclapbfaaW.PrintWords Go.Proofs.YtpoekljclapbfaaW.PrintLast

theorem cell_of_block {w : World} {b j : Nat} {C : Array Value} {t : TypeId} (h : w.heap[b]? = some (.cells C t (0, 0))) : w.cell? ⟨b, j, none⟩ = C[j]? := by
  simp [World.cell?, h]
theorem tRow_cell {w : World} {b : Nat} {k c : Int} {f : Nat → Bool} {t : TypeId} (h : w.heap[b]? = some (.cells (tRow k c f) t (0, 0))) : w.cell? ⟨b, 0, none⟩ = some (.int .i64 k) ∧ w.cell? ⟨b, 1, none⟩ = some (.int .u8 c) ∧ ∀ i, i < 256 → w.cell? ⟨b, i + 2, none⟩ = some (.bool (f i)) := by
  have hc : ∀ j, w.cell? ⟨b, j, none⟩ = (tRow k c f)[j]? := fun j => cell_of_block h
  exact ⟨by rw [hc]; rfl, by rw [hc]; rfl, fun i hi => by rw [hc]; exact tRow_bit k c f i hi⟩
def fitT (k b : Int) (f : Nat → Bool) (c : UInt8) : Bool := if k = 0 then b == (c.toNat : Int) else if k = 2 then f c.toNat else true

set_option maxHeartbeats 4000000 in
set_option maxRecDepth 100000 in
theorem fits_calls (k b : Int) (f : Nat → Bool) (c : UInt8) (w : World) :
    Calls Try.prog 28 #[.agg (tRow k b f), .int .u8 (c.toNat : Int)] w fun e w' => e = .returned (.bool (fitT k b f c)) ∧ Below w.heap.size w w' := by
  have hsz := tRow_size k b f
  obtain ⟨x0, x1, x2⟩ := tRow_cell (w := w.alloc (.cells (tRow k b f) 45)) (b := w.heap.size) (heap_alloc_last w _)
  have hc : c.toNat < 256 := c.toNat_lt
  have x3 := x2 c.toNat hc
  have hci : (c.toNat : Int) < 256 := by omega
  clear x2
  rw [Nat.add_comm] at x3
  obtain ⟨cs, hcs⟩ : ∃ cs, cs = tRow k b f := ⟨_, rfl⟩
  rw [← hcs] at hsz x0 x1 x3 ⊢
  clear hcs
  have HB := Lib.hid ((Below.refl w.heap.size w).alloc (Nat.le_refl _) (.cells cs 45))
  by_cases k0 : k = 0
  · subst k0
    go_enter Try.func28, Try.ntmps28
    go_wp2
    go_ret
    exact ⟨by simp [fitT], HB.out⟩
  · have g0 : (k == 0) = false := beq_eq_false_iff_ne.mpr k0
    by_cases k2 : k = 2
    · subst k2
      clear k0 g0
      go_enter Try.func28, Try.ntmps28
      go_wp2
      go_ret
      exact ⟨by simp [fitT], HB.out⟩
    · have g2 : (k == 2) = false := beq_eq_false_iff_ne.mpr k2
      go_enter Try.func28, Try.ntmps28
      go_wp2
      go_ret
      exact ⟨by simp [fitT, k0, k2], HB.out⟩
end Go.Proofs.Ytpoekljclapbfaa.Gs
