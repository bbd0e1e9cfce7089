/- store: contracts in one state predicate (Sk) that also bears blocks that stay. -/
import Derived.Test.YtjmaficiinhjpaaDoorStoSt
namespace Go.Proofs.YtjmaficiinhjpaaDoor.G
open Go.RowKit Go.Maps Go.WideMaps Go.Sort

/-- A store: what its ground, its frames hold; how often it was turned; K: blocks that stay. -/
def Sk (base : Nat) (w : World) (sb n : Nat) (G : List Vr) (X : List (List Vr × Bool)) (t : Int) (K : List (Nat × Obj)) : Prop :=
  ∃ gm fv F, StoreV base w sb n G F t gm fv ∧ F.map (fun f => f.2) = X ∧ ∀ p ∈ K, w.heap[p.1]? = some p.2 ∧ ¬ Foot sb gm fv F p.1
theorem Sk.later {base : Nat} {w w' : World} {sb n : Nat} {G : List Vr} {X : List (List Vr × Bool)} {t : Int} {K : List (Nat × Obj)} (h : Sk base w sb n G X t K) (hb : Below w.heap.size w w') : Sk base w' sb n G X t K := by
  obtain ⟨gm, fv, F, hS, hF, hK⟩ := h
  exact ⟨gm, fv, F, hS.later hb, hF, fun p hp => ⟨(hb.block p.1 (lt_heap (hK p hp).1)).trans (hK p hp).1, (hK p hp).2⟩⟩
theorem Sk.keep {base : Nat} {w : World} {sb n : Nat} {G : List Vr} {X : List (List Vr × Bool)} {t : Int} {K : List (Nat × Obj)} (h : Sk base w sb n G X t K) (o : Obj) : Sk base (w.alloc o) sb n G X t ((w.heap.size, o) :: K) := by
  have h2 := h.later ((Below.refl _ w).alloc (Nat.le_refl _) o)
  obtain ⟨gm, fv, F, hS, hF, hK⟩ := h
  obtain ⟨gm2, fv2, F2, hS2, hF2, hK2⟩ : ∃ gm fv F, StoreV base (w.alloc o) sb n G F t gm fv ∧ F.map (fun f => f.2) = X ∧ (∀ p ∈ K, (w.alloc o).heap[p.1]? = some p.2 ∧ ¬ Foot sb gm fv F p.1) ∧ ¬ Foot sb gm fv F w.heap.size :=
    ⟨gm, fv, F, hS.later ((Below.refl _ w).alloc (Nat.le_refl _) o), hF, fun p hp => ⟨(Below.heap_alloc _ _ _ (lt_heap (hK p hp).1)).trans (hK p hp).1, (hK p hp).2⟩, fun hf => by have := (hS.footz _ hf).2; omega⟩
  refine ⟨gm2, fv2, F2, hS2, hF2, fun p hp => ?_⟩
  rcases List.mem_cons.mp hp with rfl | hp
  · exact ⟨heap_alloc_new w o, hK2.2⟩
  · exact hK2.1 p hp
theorem Sk.at {base : Nat} {w : World} {sb n : Nat} {G : List Vr} {X : List (List Vr × Bool)} {t : Int} {K : List (Nat × Obj)} (h : Sk base w sb n G X t K) {b : Nat} {o : Obj} (hm : (b, o) ∈ K) : w.heap[b]? = some o := by
  obtain ⟨gm, fv, F, hS, hF, hK⟩ := h
  exact (hK _ hm).1
theorem Sk.drop {base : Nat} {w : World} {sb n : Nat} {G : List Vr} {X : List (List Vr × Bool)} {t : Int} {K K' : List (Nat × Obj)} (h : Sk base w sb n G X t K) (hm : ∀ p ∈ K', p ∈ K) : Sk base w sb n G X t K' := by
  obtain ⟨gm, fv, F, hS, hF, hK⟩ := h
  exact ⟨gm, fv, F, hS, hF, fun p hp => hK p (hm p hp)⟩
theorem Sk.size {base : Nat} {w : World} {sb n : Nat} {G : List Vr} {X : List (List Vr × Bool)} {t : Int} {K : List (Nat × Obj)} (h : Sk base w sb n G X t K) : base ≤ w.heap.size := by
  obtain ⟨gm, fv, F, hS, hF, hK⟩ := h
  exact hS.hz
theorem Sk.rises {base : Nat} {w : World} {sb n : Nat} {G : List Vr} {X : List (List Vr × Bool)} {t : Int} {K : List (Nat × Obj)} (h : Sk base w sb n G X t K) : RisesV G := by
  obtain ⟨gm, fv, F, hS, hF, hK⟩ := h
  exact hS.rises
/-- Behind a call. -/
theorem Sk.moved {base : Nat} {w w' : World} {sb n n0 : Nat} {G G0 : List Vr} {F F0 : List Fr} {turns t0 : Int} {gm : Nat} {fv fv0 : Value} {K : List (Nat × Obj)} {X : List (List Vr × Bool)} (h0 : StoreV base w sb n0 G0 F0 t0 gm fv0) (hK : ∀ p ∈ K, w.heap[p.1]? = some p.2 ∧ ¬ Foot sb gm fv0 F0 p.1)
    (h : Moved base w w' sb n G F turns gm fv F0 fv0) (hF : F.map (fun f => f.2) = X) : Sk base w' sb n G X turns K ∧ Below base w w' := by
  refine ⟨⟨gm, fv, F, h.store, hF, fun p hp => ?_⟩, h.below h0⟩
  obtain ⟨h1, h2⟩ := hK p hp
  have hl := lt_heap h1
  refine ⟨(h.apart.block p.1 hl h2).trans h1, fun hf => ?_⟩
  rcases h.own _ hf with hh | hh
  · exact h2 hh
  · omega

theorem New_sk (l : List Vr) (A : Option Addr) (c : Nat) (w : World) (hL : VarsAt w A l) (hl : l.length ≤ 1000000) (hn : Names l) :
    Calls Tryd.prog 7 #[.slice A l.length c] w fun e w' => ∃ sb, e = .returned (.pointer (some ⟨sb, 0, none⟩)) ∧ Sk w.heap.size w' sb l.length (foldG l) [] 0 [] ∧ Below w.heap.size w w' := by
  refine (New.calls l A c w hL hl hn).mono ?_
  rintro e w' ⟨sb, gm, rfl, hS, hb⟩
  exact ⟨sb, rfl, ⟨gm, _, [], hS, rfl, fun p hp => absurd hp (by simp)⟩, hb⟩
theorem Set_sk {base : Nat} {w : World} {sb n : Nat} {G : List Vr} {X : List (List Vr × Bool)} {t : Int} {K : List (Nat × Obj)} (h : Sk base w sb n G X t K) (v : Vr) (hv : v.name.size ≤ maxLen) (hn : n < maxLen) :
    Calls Tryd.prog 21 #[.pointer (some ⟨sb, 0, none⟩), .agg #[.string v.name, .string v.val, .int .i64 v.fl, .int .i64 v.og]] w fun e w' => e = .returned (.tuple #[]) ∧ Sk base w' sb (n + 1) (setG G v) X (wrap64 (t + 1)) K ∧ Below base w w' := by
  obtain ⟨gm, fv, F, hS, hF, hK⟩ := h
  refine (Set.calls hS v hv hn).mono ?_
  rintro e w' ⟨rfl, hM⟩
  exact ⟨rfl, Sk.moved hS hK hM hF⟩
theorem Drop_sk {base : Nat} {w : World} {sb n : Nat} {G : List Vr} {X : List (List Vr × Bool)} {t : Int} {K : List (Nat × Obj)} (h : Sk base w sb n G X t K) (x : ByteArray) (hx : x.size ≤ maxLen) :
    Calls Tryd.prog 20 #[.pointer (some ⟨sb, 0, none⟩), .string x] w fun e w' => e = .returned (.tuple #[]) ∧ Sk base w' sb n (dropG G x) X (wrap64 (t + 1)) K ∧ Below base w w' := by
  obtain ⟨gm, fv, F, hS, hF, hK⟩ := h
  refine (Drop.calls hS x hx).mono ?_
  rintro e w' ⟨rfl, hM⟩
  exact ⟨rfl, Sk.moved hS hK hM hF⟩
theorem Pop_sk {base : Nat} {w : World} {sb n : Nat} {G : List Vr} {X : List (List Vr × Bool)} {t : Int} {K : List (Nat × Obj)} (h : Sk base w sb n G X t K) :
    Calls Tryd.prog 12 #[.pointer (some ⟨sb, 0, none⟩)] w fun e w' => e = .returned (.tuple #[]) ∧ Sk base w' sb n G X.dropLast (wrap64 (t + 1)) K ∧ Below base w w' := by
  obtain ⟨gm, fv, F, hS, hF, hK⟩ := h
  refine (Pop.calls hS).mono ?_
  rintro e w' ⟨rfl, fv', hM⟩
  exact ⟨rfl, Sk.moved hS hK hM (by rw [List.map_dropLast, hF])⟩
theorem Push_sk {base : Nat} {w : World} {sb n : Nat} {G : List Vr} {X : List (List Vr × Bool)} {t : Int} {K : List (Nat × Obj)} (h : Sk base w sb n G X t K) (hX : X.length < 1000) (l : List Vr) (A : Option Addr) (c : Nat) (call : Bool)
    (hL : VarsAt w A l) (hA : ∀ b off, A = some ⟨b, off, none⟩ → b ≠ sb) (hl : l.length ≤ 1000000) (hn : Names l) :
    Calls Tryd.prog 10 #[.pointer (some ⟨sb, 0, none⟩), .slice A l.length c, .bool call] w fun e w' => e = .returned (.tuple #[]) ∧ Sk base w' sb n G (X ++ [(l, call)]) (wrap64 (t + 1)) K ∧ Below base w w' := by
  obtain ⟨gm, fv, F, hS, hF, hK⟩ := h
  have hL2 : VarsAt (w.setCell ⟨sb, 3, none⟩ (.int .i64 (wrap64 (t + 1)))) A l := by
    intro hp
    obtain ⟨b, off, rfl, hz, hc⟩ := hL hp
    have hk : (w.setCell ⟨sb, 3, none⟩ (.int .i64 (wrap64 (t + 1)))).heap[b]? = w.heap[b]? := Below.heap_setCell _ _ _ _ (hA b off rfl)
    refine ⟨b, off, rfl, by simpa [World.setCell] using hz, fun j v hj => ?_⟩
    obtain ⟨h0, h1, h2, h3⟩ := hc j v hj
    exact ⟨(cells_kept hk).trans h0, (cells_kept hk).trans h1, (cells_kept hk).trans h2, (cells_kept hk).trans h3⟩
  refine (Push.calls hS (by rw [← hF] at hX; simpa using hX) l A c call hL2 hl hn).mono ?_
  rintro e w' ⟨rfl, b, fv', hM⟩
  exact ⟨rfl, Sk.moved hS hK hM (by rw [List.map_append, hF]; rfl)⟩
theorem Get_sk {base : Nat} {w : World} {sb n : Nat} {G : List Vr} {X : List (List Vr × Bool)} {t : Int} {K : List (Nat × Obj)} (h : Sk base w sb n G X t K) (x : ByteArray) (hx : x.size ≤ maxLen) {u : Vr} {k : Bool} (hg : getX G X x = (u, k)) :
    Calls Tryd.prog 11 #[.pointer (some ⟨sb, 0, none⟩), .string x] w fun e w' => e = .returned (.tuple #[.agg #[.string u.name, .string u.val, .int .i64 u.fl, .int .i64 u.og], .bool k]) ∧ Sk base w' sb n G X t K ∧ Below w.heap.size w w' := by
  have h2 := h
  obtain ⟨gm, fv, F, hS, hF, hK⟩ := h
  refine (Get.calls hS x hx).mono ?_
  rintro e w' ⟨rfl, hb⟩
  rw [getR_X, hF, hg]
  exact ⟨rfl, h2.later hb, hb⟩
theorem All_sk {base : Nat} {w : World} {sb n : Nat} {G : List Vr} {X : List (List Vr × Bool)} {t : Int} {K : List (Nat × Obj)} (h : Sk base w sb n G X t K) (hG : G.length ≤ 100000) :
    Calls Tryd.prog 22 #[.pointer (some ⟨sb, 0, none⟩)] w (fun e w' => ∃ A c, e = .returned (.slice A G.length c) ∧ VarsAt w' A G ∧ Sk base w' sb n G X t K ∧ Below w.heap.size w w') := by
  have h2 := h
  obtain ⟨gm, fv, F, hS, hF, hK⟩ := h
  refine (All.calls hS hG).mono ?_
  rintro e w' ⟨A, c, rfl, hv, hb⟩
  exact ⟨A, c, rfl, hv, h2.later hb, hb⟩
theorem Turns_sk {base : Nat} {w : World} {sb n : Nat} {G : List Vr} {X : List (List Vr × Bool)} {t : Int} {K : List (Nat × Obj)} (h : Sk base w sb n G X t K) :
    Calls Tryd.prog 13 #[.pointer (some ⟨sb, 0, none⟩)] w fun e w' => e = .returned (.int .i64 t) ∧ w = w' := by
  obtain ⟨gm, fv, F, hS, hF, hK⟩ := h
  refine (Turns.calls hS).mono ?_
  rintro e w' ⟨rfl, rfl⟩
  exact ⟨rfl, rfl⟩
/-- A box's cells. -/
def boxO (v : Vr) : Obj := .cells #[.string v.name, .string v.val, .int .i64 v.fl, .int .i64 v.og] 27
theorem Sk.box {base : Nat} {w : World} {sb n : Nat} {G : List Vr} {X : List (List Vr × Bool)} {t : Int} {K : List (Nat × Obj)} (h : Sk base w sb n G X t K) {b : Nat} {v : Vr} (hm : (b, boxO v) ∈ K) :
    w.cell? ⟨b, 0, none⟩ = some (.string v.name) ∧ w.cell? ⟨b, 1, none⟩ = some (.string v.val) ∧ w.cell? ⟨b, 2, none⟩ = some (.int .i64 v.fl) ∧ w.cell? ⟨b, 3, none⟩ = some (.int .i64 v.og) := by
  have hb := h.at hm
  exact ⟨cell_of_block (j := 0) hb, cell_of_block (j := 1) hb, cell_of_block (j := 2) hb, cell_of_block (j := 3) hb⟩
end Go.Proofs.YtjmaficiinhjpaaDoor.G
