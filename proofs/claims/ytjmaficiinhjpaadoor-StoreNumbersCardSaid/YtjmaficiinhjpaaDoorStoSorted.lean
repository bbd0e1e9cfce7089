/- store.All: a sorted permutation of a rising list is that list. -/
import Derived.Test.YtjmaficiinhjpaaDoorStoOps
namespace Go.Proofs.YtjmaficiinhjpaaDoor.G
open Go.RowKit Go.Maps Go.Sort

theorem sorted_is : ∀ (G l : List Vr), l.Perm G → l.Pairwise (fun a b => ¬ ltN b.name a.name) → RisesV G → l = G
  | [], l, hp, _, _ => hp.eq_nil
  | g :: G, l, hp, hs, hG => by
    cases l with
    | nil => exact absurd hp.symm.eq_nil (by simp)
    | cons a l =>
      have hG' := List.pairwise_cons.mp hG
      have hs' := List.pairwise_cons.mp hs
      have e : a = g := by
        rcases List.mem_cons.mp (hp.subset (List.mem_cons_self ..)) with h | h
        · exact h
        · have h1 := hG'.1 a h
          rcases List.mem_cons.mp (hp.symm.subset (List.mem_cons_self ..)) with h2 | h2
          · exact h2.symm
          · exact absurd h1 (hs'.1 g h2)
      subst e
      rw [sorted_is G l (List.Perm.cons_inv hp) hs'.2 hG'.2]
end Go.Proofs.YtjmaficiinhjpaaDoor.G
