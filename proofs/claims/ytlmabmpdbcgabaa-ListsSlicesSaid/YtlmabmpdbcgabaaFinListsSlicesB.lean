/- What a case of the law ListsSlices runs; the classes of a whole number. -/
import Derived.Test.YtlmabmpdbcgabaaEvMemo
namespace Go.Proofs.Ytlmabmpdbcgabaa.Fin
open Go.Proofs.Ytlmabmpdbcgabaa.Fast Go.RowKit
set_option linter.unusedVariables false
noncomputable def lsGo (r : Nat) (f t : AV) : Bool := isTrue (call Try.prog (memoK memo (placeK 21 (tab1 30 r))) 1000000 5 [.sym 0, f, t] Heap.emp)
def cls (k : Nat) : List AV := .le 0 :: ((List.range k).map (fun i => AV.int .i64 (.ofNat (i + 1))) ++ [.ge (.ofNat (k + 1))])
theorem cls_ok (k : Nat) (a : Int) : ∃ f ∈ cls k, ∀ π σ, VR π σ f (.int .i64 a) := by
  rcases Int.lt_or_le a 1 with h | h
  · exact ⟨.le 0, by simp [cls], fun π σ => .le _ _ (by omega)⟩
  · rcases Int.lt_or_le (k : Int) a with h2 | h2
    · exact ⟨.ge (.ofNat (k + 1)), by simp [cls], fun π σ => .ge _ _ (by show ((k + 1 : Nat) : Int) ≤ a; omega)⟩
    · obtain ⟨n, rfl⟩ : ∃ n : Nat, a = (n + 1 : Nat) := ⟨(a - 1).toNat, by omega⟩
      exact ⟨.int .i64 (.ofNat (n + 1)), List.mem_cons_of_mem _ (List.mem_append_left _ (List.mem_map.2 ⟨n, List.mem_range.2 (by omega), rfl⟩)), fun π σ => .int _ _⟩
theorem band_mk {a b : Bool} (h1 : a = true) (h2 : b = true) : band a b = true := by rw [h1, h2]; rfl
end Go.Proofs.Ytlmabmpdbcgabaa.Fin
