/- The law PathParts: its walk. -/
import Derived.Test.YtpoekljclapbfaaDoorPathPWff
import Derived.Test.YtpoekljclapbfaaDoorPathPWft
import Derived.Test.YtpoekljclapbfaaDoorPathPWtf
import Derived.Test.YtpoekljclapbfaaDoorPathPWtt
namespace Go.Proofs.YtpoekljclapbfaaDoor.G
open Go.RowKit
set_option linter.unusedVariables false
theorem pathParts_walk (a0 : Option Addr) (len0 cap0 : Nat) (z0 : List Int) (a1 a2 : Bool) (w : World)
    (w0 : (a0 = none ∧ len0 = 0 ∧ cap0 = 0 ∧ z0 = []) ∨ ∃ x, a0 = some x ∧ len0 ≤ cap0 ∧ cap0 ≤ maxLen ∧ z0.length = cap0 ∧ (∀ i, i < z0.length → w.cell? (x.add i) = some (.int .i64 (z0.getD i 0))) ∧ ∀ n ∈ z0, (Lit.int .i64 n).wf = true)
    (hm : ∃ m, w.cell? ⟨0, 0, none⟩ = some (.int .i64 m)) :
    Calls Tryd.prog 4 #[.slice a0 len0 cap0, .bool a1, .bool a2] w fun e w' => e = .returned (.bool true) ∧ Below w.heap.size w w' := by
  have hz : ∀ j, j < len0 → (Lit.int .i64 (z0.getD j 0)).wf = true := fun j hj => by
    rcases w0 with ⟨_, h, _⟩ | ⟨x, hx, h1, h2, h3, h4, h5⟩
    · omega
    · have hl : j < z0.length := by omega
      rw [List.getD_eq_getElem?_getD, List.getElem?_eq_getElem hl]
      exact h5 _ (List.getElem_mem hl)
  have hidx : ∀ k, k < len0 → ∃ b off, a0 = some ⟨b, off, none⟩ ∧ b < w.heap.size ∧ ∀ j, j < len0 → w.cell? ⟨b, off + j, none⟩ = some (.int .i64 (z0.getD j 0)) := fun k hk => by
    rcases w0 with ⟨_, h, _⟩ | ⟨x, hx, h1, h2, h3, h4, _⟩
    · omega
    · have hsp : x.spot = none := World.cell?_spot (h4 0 (by omega))
      obtain ⟨b, off, sp⟩ := x
      simp only at hsp
      subst hsp
      have hc : ∀ j, j < len0 → w.cell? ⟨b, off + j, none⟩ = some (.int .i64 (z0.getD j 0)) := fun j hj => by
        have e : (⟨b, off, none⟩ : Addr).add j = ⟨b, off + j, none⟩ := by
          unfold Addr.add
          split
          · rename_i h0; rw [h0]; rfl
          · rfl
        rw [← e]
        exact h4 j (by omega)
      refine ⟨b, off, hx, Decidable.byContradiction fun hn => ?_, hc⟩
      have := hc 0 (by omega)
      rw [show w.cell? ⟨b, off + 0, none⟩ = none by simp [World.cell?, Array.getElem?_eq_none (show w.heap.size ≤ b by omega)]] at this
      cases this
  cases a1 <;> cases a2
  · exact pathParts_false_false a0 len0 cap0 z0 w hm hz hidx
  · exact pathParts_false_true a0 len0 cap0 z0 w hm hz hidx
  · exact pathParts_true_false a0 len0 cap0 z0 w hm hz hidx
  · exact pathParts_true_true a0 len0 cap0 z0 w hm hz hidx
end Go.Proofs.YtpoekljclapbfaaDoor.G
