/- store.All: what its walk needs (begun). -/
import Derived.Test.YtjmaficiinhjpaaDoorStoSort
import Derived.Sort.KeysCollected
import Derived.Maps.RangeWalk
import Derived.LoopTactic
namespace Go.Proofs.YtjmaficiinhjpaaDoor.G
open Go.RowKit Go.Maps Go.WideMaps Go.Sort

def varsV (l : List Vr) : List Value := l.flatMap Vr.cells
theorem varsV_snoc (l : List Vr) (v : Vr) : varsV (l ++ [v]) = varsV l ++ v.cells := by simp [varsV]
theorem info_var : (Tryd.prog.info? 27).map (fun i => (i.zero, i.size, i.bytes)) = some (some (.agg #[.string ⟨#[]⟩, .string ⟨#[]⟩, .int .i64 0, .int .i64 0]), 4, 48) := by kernel_rfl
theorem var_shape : ∀ (v : Value) (y : DataW Unit × List MemPlace), varR v = some y → ∃ c : Vr, v = c.cell := by
  intro v y h
  unfold varR at h
  split at h
  · rename_i fs
    split at h
    · rename_i a b c d heq
      exact ⟨⟨a, b, c, d⟩, by rw [show fs = #[.string a, .string b, .int .i64 c, .int .i64 d] by rw [← Array.toList_inj, heq]]; rfl⟩
    · cases h
  · cases h
end Go.Proofs.YtjmaficiinhjpaaDoor.G
