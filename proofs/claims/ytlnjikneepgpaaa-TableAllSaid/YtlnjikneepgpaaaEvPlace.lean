/- A number's place among so many is its remainder: the walk of Place. -/
import Derived.Test.YtlnjikneepgpaaaEvFin
import Derived.Test.YtlnjikneepgpaaaProg
import Derived.OwnWalk
import Derived.LoopTactic
import Derived.WalkKit
namespace Go.Proofs.Ytlnjikneepgpaaa.Fin
open Go.RowKit

theorem rem_neg (a n : Int) (h0 : 0 < n) (h : a.tmod n < 0) : a.tmod n + n = a % n := by
  have h1 := Int.tmod_lt_of_pos a h0
  have h2 := Int.lt_tmod_of_pos a h0
  have h3 := Int.emod_nonneg a (show n ≠ 0 by omega)
  have h4 := Int.emod_lt_of_pos a h0
  rw [Int.tmod_eq_emod] at h ⊢
  split at h
  · omega
  · rename_i hc
    rw [if_neg hc]
    have : (n.natAbs : Int) = n := by omega
    omega
theorem rem_pos (a n : Int) (h0 : 0 < n) (h : 0 ≤ a.tmod n) : a.tmod n = a % n := by
  have h3 := Int.emod_nonneg a (show n ≠ 0 by omega)
  have h4 := Int.emod_lt_of_pos a h0
  rw [Int.tmod_eq_emod] at h ⊢
  split at h
  · rename_i hc
    rw [if_pos hc]; omega
  · rename_i hc
    have : (n.natAbs : Int) = n := by omega
    omega

set_option maxHeartbeats 4000000 in
set_option maxRecDepth 100000 in
theorem place_ok : Go.Proofs.Ytlnjikneepgpaaa.Fast.PlaceOk Try.prog 27 := by
  intro a n w ha h0 h1
  have hneg := rem_neg a n h0
  have hpos := rem_pos a n h0
  have g1 := Int.emod_nonneg a (show n ≠ 0 by omega)
  have g2 := Int.emod_lt_of_pos a h0
  go_enter Try.func27, Try.ntmps27
  go_wp2
  all_goals (rename_i h; refine bodyPost_ret (results_tmp rfl _ _ _) rfl ?_; first | exact ⟨rfl, rfl⟩ | exact ⟨by rw [hpos h]; rfl, rfl⟩)

theorem names_ok : Go.Proofs.Ytlnjikneepgpaaa.Fast.NamesOk Try.prog := Go.Proofs.Ytlnjikneepgpaaa.Fast.namesOk_ok (by decide +kernel)
theorem mixed : Try.prog.follows .mixedOrders = true := by kernel_rfl
end Go.Proofs.Ytlnjikneepgpaaa.Fin
