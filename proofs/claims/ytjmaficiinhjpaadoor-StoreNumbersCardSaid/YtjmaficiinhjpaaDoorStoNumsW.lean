/- wainwrightlaw17.StoreNumbers: the walk as the row wants it. -/
import Derived.Test.YtjmaficiinhjpaaDoorStoNums
namespace Go.Proofs.YtjmaficiinhjpaaDoor.G
open Go.RowKit
theorem idx_intsN {a1 : Option Addr} {len1 cap1 : Nat} {z1 : List Int} {w : World}
    (w1 : (a1 = none ∧ len1 = 0 ∧ cap1 = 0 ∧ z1 = []) ∨ ∃ x, a1 = some x ∧ len1 ≤ cap1 ∧ cap1 ≤ maxLen ∧ z1.length = cap1 ∧ (∀ i, i < z1.length → w.cell? (x.add i) = some (.int .i64 (z1.getD i 0))) ∧ ∀ n ∈ z1, (Lit.int .i64 n).wf = true)
    (k : Nat) (hk : k < len1) : ∃ b off, a1 = some ⟨b, off, none⟩ ∧ b < w.heap.size ∧ ∀ j, j < len1 → w.cell? ⟨b, off + j, none⟩ = some (.int .i64 (z1.getD j 0)) := by
  rcases w1 with ⟨_, h, _⟩ | ⟨x, hx, h1, h2, h3, h4, _⟩
  · omega
  · have hsp : x.spot = none := World.cell?_spot (h4 0 (by omega))
    obtain ⟨b, off, sp⟩ := x
    simp only at hsp
    subst hsp
    have hc : ∀ j, j < len1 → w.cell? ⟨b, off + j, none⟩ = some (.int .i64 (z1.getD j 0)) := fun j hj => by
      have e : (⟨b, off, none⟩ : Addr).add j = ⟨b, off + j, none⟩ := by
        unfold Addr.add
        split
        · rename_i h0; rw [h0]; rfl
        · rfl
      rw [← e]
      exact h4 j (by omega)
    refine ⟨b, off, hx, Decidable.byContradiction fun hn => ?_, hc⟩
    have := hc 0 (by omega)
    rw [show w.cell? ⟨b, off + 0, none⟩ = none by simp [World.cell?, Array.getElem?_eq_none (show w.heap.size ≤ b by omega)]] at this
    cases this
theorem storeNumbers_walk (a0 : Option Addr) (len0 cap0 : Nat) (z0 : List Int) (w : World)
    (w0 : (a0 = none ∧ len0 = 0 ∧ cap0 = 0 ∧ z0 = []) ∨ ∃ x, a0 = some x ∧ len0 ≤ cap0 ∧ cap0 ≤ maxLen ∧ z0.length = cap0 ∧ (∀ i, i < z0.length → w.cell? (x.add i) = some (.int .i64 (z0.getD i 0))) ∧ ∀ n ∈ z0, (Lit.int .i64 n).wf = true) :
    Calls Tryd.prog 5 #[.slice a0 len0 cap0] w fun e w' => e = .returned (.bool true) ∧ Below w.heap.size w w' :=
  nums_any a0 len0 cap0 z0 w (fun k hk => idx_intsN w0 k hk)
end Go.Proofs.YtjmaficiinhjpaaDoor.G
