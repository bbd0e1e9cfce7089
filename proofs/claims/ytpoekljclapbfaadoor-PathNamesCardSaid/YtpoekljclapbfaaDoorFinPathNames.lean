/- The law PathNames: each case of it, and with them its walk. -/
import Derived.Test.YtpoekljclapbfaaDoorFinPathNames0
import Derived.Test.YtpoekljclapbfaaDoorFinPathNames1
namespace Go.Proofs.YtpoekljclapbfaaDoor.Fin
open Go.Proofs.YtpoekljclapbfaaDoor.Fast Go.RowKit
set_option linter.unusedVariables false

theorem pathNames_all (r0 : Nat) (r1 : Nat) (r2 : Nat) (h0 : r0 < 5) (h1 : r1 < 4) (h2 : r2 < 4) : pathNamesGo r0 r1 r2 = true := by
  match r0, h0 with
  | 0, _ =>
    match r1, h1 with
    | 0, _ =>
      match r2, h2 with
      | 0, _ =>
        exact pathNames_0_0_0
      | 1, _ =>
        exact pathNames_0_0_1
      | 2, _ =>
        exact pathNames_0_0_2
      | 3, _ =>
        exact pathNames_0_0_3
      | n + 4, h => exact absurd h (by omega)
    | 1, _ =>
      match r2, h2 with
      | 0, _ =>
        exact pathNames_0_1_0
      | 1, _ =>
        exact pathNames_0_1_1
      | 2, _ =>
        exact pathNames_0_1_2
      | 3, _ =>
        exact pathNames_0_1_3
      | n + 4, h => exact absurd h (by omega)
    | 2, _ =>
      match r2, h2 with
      | 0, _ =>
        exact pathNames_0_2_0
      | 1, _ =>
        exact pathNames_0_2_1
      | 2, _ =>
        exact pathNames_0_2_2
      | 3, _ =>
        exact pathNames_0_2_3
      | n + 4, h => exact absurd h (by omega)
    | 3, _ =>
      match r2, h2 with
      | 0, _ =>
        exact pathNames_0_3_0
      | 1, _ =>
        exact pathNames_0_3_1
      | 2, _ =>
        exact pathNames_0_3_2
      | 3, _ =>
        exact pathNames_0_3_3
      | n + 4, h => exact absurd h (by omega)
    | n + 4, h => exact absurd h (by omega)
  | 1, _ =>
    match r1, h1 with
    | 0, _ =>
      match r2, h2 with
      | 0, _ =>
        exact pathNames_1_0_0
      | 1, _ =>
        exact pathNames_1_0_1
      | 2, _ =>
        exact pathNames_1_0_2
      | 3, _ =>
        exact pathNames_1_0_3
      | n + 4, h => exact absurd h (by omega)
    | 1, _ =>
      match r2, h2 with
      | 0, _ =>
        exact pathNames_1_1_0
      | 1, _ =>
        exact pathNames_1_1_1
      | 2, _ =>
        exact pathNames_1_1_2
      | 3, _ =>
        exact pathNames_1_1_3
      | n + 4, h => exact absurd h (by omega)
    | 2, _ =>
      match r2, h2 with
      | 0, _ =>
        exact pathNames_1_2_0
      | 1, _ =>
        exact pathNames_1_2_1
      | 2, _ =>
        exact pathNames_1_2_2
      | 3, _ =>
        exact pathNames_1_2_3
      | n + 4, h => exact absurd h (by omega)
    | 3, _ =>
      match r2, h2 with
      | 0, _ =>
        exact pathNames_1_3_0
      | 1, _ =>
        exact pathNames_1_3_1
      | 2, _ =>
        exact pathNames_1_3_2
      | 3, _ =>
        exact pathNames_1_3_3
      | n + 4, h => exact absurd h (by omega)
    | n + 4, h => exact absurd h (by omega)
  | 2, _ =>
    match r1, h1 with
    | 0, _ =>
      match r2, h2 with
      | 0, _ =>
        exact pathNames_2_0_0
      | 1, _ =>
        exact pathNames_2_0_1
      | 2, _ =>
        exact pathNames_2_0_2
      | 3, _ =>
        exact pathNames_2_0_3
      | n + 4, h => exact absurd h (by omega)
    | 1, _ =>
      match r2, h2 with
      | 0, _ =>
        exact pathNames_2_1_0
      | 1, _ =>
        exact pathNames_2_1_1
      | 2, _ =>
        exact pathNames_2_1_2
      | 3, _ =>
        exact pathNames_2_1_3
      | n + 4, h => exact absurd h (by omega)
    | 2, _ =>
      match r2, h2 with
      | 0, _ =>
        exact pathNames_2_2_0
      | 1, _ =>
        exact pathNames_2_2_1
      | 2, _ =>
        exact pathNames_2_2_2
      | 3, _ =>
        exact pathNames_2_2_3
      | n + 4, h => exact absurd h (by omega)
    | 3, _ =>
      match r2, h2 with
      | 0, _ =>
        exact pathNames_2_3_0
      | 1, _ =>
        exact pathNames_2_3_1
      | 2, _ =>
        exact pathNames_2_3_2
      | 3, _ =>
        exact pathNames_2_3_3
      | n + 4, h => exact absurd h (by omega)
    | n + 4, h => exact absurd h (by omega)
  | 3, _ =>
    match r1, h1 with
    | 0, _ =>
      match r2, h2 with
      | 0, _ =>
        exact pathNames_3_0_0
      | 1, _ =>
        exact pathNames_3_0_1
      | 2, _ =>
        exact pathNames_3_0_2
      | 3, _ =>
        exact pathNames_3_0_3
      | n + 4, h => exact absurd h (by omega)
    | 1, _ =>
      match r2, h2 with
      | 0, _ =>
        exact pathNames_3_1_0
      | 1, _ =>
        exact pathNames_3_1_1
      | 2, _ =>
        exact pathNames_3_1_2
      | 3, _ =>
        exact pathNames_3_1_3
      | n + 4, h => exact absurd h (by omega)
    | 2, _ =>
      match r2, h2 with
      | 0, _ =>
        exact pathNames_3_2_0
      | 1, _ =>
        exact pathNames_3_2_1
      | 2, _ =>
        exact pathNames_3_2_2
      | 3, _ =>
        exact pathNames_3_2_3
      | n + 4, h => exact absurd h (by omega)
    | 3, _ =>
      match r2, h2 with
      | 0, _ =>
        exact pathNames_3_3_0
      | 1, _ =>
        exact pathNames_3_3_1
      | 2, _ =>
        exact pathNames_3_3_2
      | 3, _ =>
        exact pathNames_3_3_3
      | n + 4, h => exact absurd h (by omega)
    | n + 4, h => exact absurd h (by omega)
  | 4, _ =>
    match r1, h1 with
    | 0, _ =>
      match r2, h2 with
      | 0, _ =>
        exact pathNames_4_0_0
      | 1, _ =>
        exact pathNames_4_0_1
      | 2, _ =>
        exact pathNames_4_0_2
      | 3, _ =>
        exact pathNames_4_0_3
      | n + 4, h => exact absurd h (by omega)
    | 1, _ =>
      match r2, h2 with
      | 0, _ =>
        exact pathNames_4_1_0
      | 1, _ =>
        exact pathNames_4_1_1
      | 2, _ =>
        exact pathNames_4_1_2
      | 3, _ =>
        exact pathNames_4_1_3
      | n + 4, h => exact absurd h (by omega)
    | 2, _ =>
      match r2, h2 with
      | 0, _ =>
        exact pathNames_4_2_0
      | 1, _ =>
        exact pathNames_4_2_1
      | 2, _ =>
        exact pathNames_4_2_2
      | 3, _ =>
        exact pathNames_4_2_3
      | n + 4, h => exact absurd h (by omega)
    | 3, _ =>
      match r2, h2 with
      | 0, _ =>
        exact pathNames_4_3_0
      | 1, _ =>
        exact pathNames_4_3_1
      | 2, _ =>
        exact pathNames_4_3_2
      | 3, _ =>
        exact pathNames_4_3_3
      | n + 4, h => exact absurd h (by omega)
    | n + 4, h => exact absurd h (by omega)
  | n + 5, h => exact absurd h (by omega)
theorem pathNames_walk (a0 : Int) (a1 : Int) (a2 : Int) (w : World) (w0 : (Lit.int .i64 a0).wf = true) (w1 : (Lit.int .i64 a1).wf = true) (w2 : (Lit.int .i64 a2).wf = true) : Calls Tryd.prog 5 #[Value.int .i64 a0, Value.int .i64 a1, Value.int .i64 a2] w fun e w' => e = .returned (.bool true) ∧ Below w.heap.size w w' := by
  obtain ⟨r0, h0, e0⟩ := mod_cases a0 5 (by decide)
  obtain ⟨r1, h1, e1⟩ := mod_cases a1 4 (by decide)
  obtain ⟨r2, h2, e2⟩ := mod_cases a2 4 (by decide)
  exact fin_calls (zsL [a0, a1, a2]) place_ok names_ok mixed (fun fn h => by rw [Tryd.func5] at h; obtain rfl := Option.some.inj h; rfl) (zsL_wf (fun a h => by simp only [List.mem_cons, List.not_mem_nil, or_false] at h; rcases h with rfl | rfl | rfl <;> assumption)) (tabL_ok (TabOk.cons (by decide) (by decide) e0 (TabOk.cons (by decide) (by decide) e1 (TabOk.cons (by decide) (by decide) e2 (show TabOk [] [] from trivial))))) (.cons _ _ _ _ (.sym 0) (.cons _ _ _ _ (.sym 1) (.cons _ _ _ _ (.sym 2) .nil))) (pathNames_all r0 r1 r2 h0 h1 h2)
end Go.Proofs.YtpoekljclapbfaaDoor.Fin
