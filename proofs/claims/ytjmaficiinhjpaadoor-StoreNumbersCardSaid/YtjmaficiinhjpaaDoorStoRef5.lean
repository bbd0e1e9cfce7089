/- the reference's store: Set. -/
import Derived.Test.YtjmaficiinhjpaaDoorStoRef4
import Derived.OwnWalk
import Derived.Sort.Walk0
namespace Go.Proofs.YtjmaficiinhjpaaDoor.G
open Go.RowKit Go.Maps Go.WideMaps Go.Sort

theorem varsV_set : ∀ (ys : List Vr) (j : Nat) (p : Vr), j < ys.length →
    ((((varsV ys).set (j * 4) (.string p.name)).set (j * 4 + 1) (.string p.val)).set (j * 4 + 2) (.int .i64 p.fl)).set (j * 4 + 3) (.int .i64 p.og) = varsV (ys.set j p)
  | [], j, p, h => absurd h (by simp)
  | q :: ys, 0, p, _ => by
    show ((((q.cells ++ varsV ys).set (0 * 4) _).set (0 * 4 + 1) _).set (0 * 4 + 2) _).set (0 * 4 + 3) _ = p.cells ++ varsV ys
    simp [Vr.cells]
  | q :: ys, j + 1, p, h => by
    have ih := varsV_set ys j p (by simpa using h)
    show ((((q.cells ++ varsV ys).set ((j + 1) * 4) _).set ((j + 1) * 4 + 1) _).set ((j + 1) * 4 + 2) _).set ((j + 1) * 4 + 3) _ = q.cells ++ varsV (ys.set j p)
    have hl : q.cells.length = 4 := rfl
    have e0 : ∀ (l : List Value) (i : Nat) (u : Value), (q.cells ++ l).set ((j + 1) * 4 + i) u = q.cells ++ l.set (j * 4 + i) u := fun l i u => by
      rw [List.set_append_right _ _ (by rw [hl]; omega), hl]
      congr 2
      omega
    have e00 : ∀ (l : List Value) (u : Value), (q.cells ++ l).set ((j + 1) * 4) u = q.cells ++ l.set (j * 4) u := fun l u => e0 l 0 u
    rw [e00, e0, e0, e0, ih]
theorem vrow_put {w : World} {base g n cap : Nat} {ys : List Vr} (h : w.ownsRow base 27 4 (.slice (some ⟨g, 0, none⟩) n cap) n (varsV ys)) (j : Nat) (p : Vr) (hj : j < ys.length) :
    ((((w.setCell ⟨g, j * 4, none⟩ (.string p.name)).setCell ⟨g, j * 4 + 1, none⟩ (.string p.val)).setCell ⟨g, j * 4 + 2, none⟩ (.int .i64 p.fl)).setCell ⟨g, j * 4 + 3, none⟩ (.int .i64 p.og)).ownsRow base 27 4 (.slice (some ⟨g, 0, none⟩) n cap) n (varsV (ys.set j p)) := by
  rw [← varsV_set ys j p hj]
  exact ((((h.stored _ _).1.stored _ _).1.stored _ _).1.stored _ _).1
theorem vrow_frozen {w : World} {base g n cap sz : Nat} {e : TypeId} {xs : List Value} (h : w.ownsRow base e sz (.slice (some ⟨g, 0, none⟩) n cap) n xs) (j : Nat) : w.frozen? ⟨g, j, none⟩ = false := by
  obtain ⟨_, ⟨h1, _⟩ | ⟨g', cap', cur, h1, hb, hg, hn, hm, hs, ht⟩⟩ := h
  · cases h1
  · simp only [Value.slice.injEq, Option.some.injEq, Addr.mk.injEq, and_true, true_and] at h1
    obtain ⟨rfl, rfl⟩ := h1
    exact frozen_of_block hg

/-! ### where a name stands -/
def Ahead (G : List Vr) (x : ByteArray) (k : Nat) : Prop := ∀ j u, j < k → G[j]? = some u → ltN u.name x
theorem set_at : ∀ {G : List Vr} {v : Vr} {k : Nat} {u : Vr}, RisesV G → Ahead G v.name k → G[k]? = some u → u.name = v.name → setG G v = G.set k v
  | [], _, _, _, _, _, h, _ => by simp at h
  | g :: G, v, 0, u, _, _, h, hu => by
    obtain rfl : g = u := by simpa using h
    rw [setG, if_pos hu]; rfl
  | g :: G, v, k + 1, u, hr, ha, h, hu => by
    have hr' := List.pairwise_cons.mp hr
    have h0 := ha 0 g (by omega) rfl
    rw [setG, if_neg (fun e => ltN_irrefl v.name (by rw [e] at h0; exact h0)), if_pos h0, set_at (k := k) hr'.2 (fun j w hj hw => ha (j + 1) w (by omega) (by simpa using hw)) (by simpa using h) hu]
    rfl
theorem set_in : ∀ {G : List Vr} {v : Vr} {k : Nat}, RisesV G → Ahead G v.name k → k ≤ G.length → (∀ u, G[k]? = some u → ltN v.name u.name) → setG G v = G.take k ++ [v] ++ G.drop k
  | [], v, k, _, _, hk, _ => by
    obtain rfl : k = 0 := by simpa using hk
    rfl
  | g :: G, v, 0, _, _, _, h => by
    have h0 := h g rfl
    rw [setG, if_neg (fun e => ltN_irrefl v.name (by rw [e] at h0; exact h0)), if_neg (fun hh => ltN_irrefl v.name (ltN_trans h0 hh))]
    rfl
  | g :: G, v, k + 1, hr, ha, hk, h => by
    have hr' := List.pairwise_cons.mp hr
    have h0 := ha 0 g (by omega) rfl
    rw [setG, if_neg (fun e => ltN_irrefl v.name (by rw [e] at h0; exact h0)), if_pos h0, set_in (k := k) hr'.2 (fun j w hj hw => ha (j + 1) w (by omega) (by simpa using hw)) (by simpa using hk) (fun u hu => h u (by simpa using hu))]
    rfl
end Go.Proofs.YtjmaficiinhjpaaDoor.G
