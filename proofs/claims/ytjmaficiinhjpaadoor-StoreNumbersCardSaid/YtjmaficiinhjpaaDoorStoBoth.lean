/- store and its reference side by side: contracts in one predicate (Bk). -/
import Derived.Test.YtjmaficiinhjpaaDoorStoRef7
import Derived.Test.YtjmaficiinhjpaaDoorStoKs
namespace Go.Proofs.YtjmaficiinhjpaaDoor.G
open Go.RowKit Go.Maps Go.WideMaps Go.Sort

/-- Both: what the store holds, what the reference holds; K: blocks that stay. -/
def Bk (base : Nat) (w : World) (sb rb n : Nat) (G : List Vr) (X : List (List Vr × Bool)) (t : Int) (G' : List Vr) (X' : List (List Vr × Bool)) (t' : Int) (K : List (Nat × Obj)) : Prop :=
  ∃ gm fv F B XR, StoreV base w sb n G F t gm fv ∧ F.map (fun f => f.2) = X ∧ RefS base w rb B G' XR t' ∧ XR.map (fun f => f.2.2) = X' ∧ (∀ k, Foot sb gm fv F k → k ≠ rb ∧ ¬ B k) ∧ ∀ p ∈ K, w.heap[p.1]? = some p.2 ∧ ¬ Foot sb gm fv F p.1 ∧ p.1 ≠ rb
section
variable {base : Nat} {w w' : World} {sb rb n : Nat} {G G' : List Vr} {X X' : List (List Vr × Bool)} {t t' : Int} {K : List (Nat × Obj)}
theorem Bk.later (h : Bk base w sb rb n G X t G' X' t' K) (hb : Below w.heap.size w w') : Bk base w' sb rb n G X t G' X' t' K := by
  obtain ⟨gm, fv, F, B, XR, hS, hF, ⟨gA, fA, cA, gc, fc, cc, hR⟩, hX, hd, hK⟩ := h
  exact ⟨gm, fv, F, B, XR, hS.later hb, hF, ⟨_, _, _, _, _, _, hR.later hb⟩, hX, hd, fun p hp => ⟨(hb.block p.1 (lt_heap (hK p hp).1)).trans (hK p hp).1, (hK p hp).2⟩⟩
theorem Bk.keep (h : Bk base w sb rb n G X t G' X' t' K) (o : Obj) : Bk base (w.alloc o) sb rb n G X t G' X' t' ((w.heap.size, o) :: K) := by
  obtain ⟨gm, fv, F, B, XR, hS, hF, ⟨gA, fA, cA, gc, fc, cc, hR⟩, hX, hd, hK⟩ := h
  have hb : Below w.heap.size w (w.alloc o) := (Below.refl _ w).alloc (Nat.le_refl _) o
  refine ⟨gm, fv, F, B, XR, hS.later hb, hF, ⟨_, _, _, _, _, _, hR.later hb⟩, hX, hd, fun p hp => ?_⟩
  rcases List.mem_cons.mp hp with rfl | hp
  · exact ⟨heap_alloc_new w o, fun hf => by have := (hS.footz _ hf).2; simp at this, by have := hR.hrz; show w.heap.size ≠ rb; omega⟩
  · exact ⟨(hb.block p.1 (lt_heap (hK p hp).1)).trans (hK p hp).1, (hK p hp).2⟩
theorem Bk.at (h : Bk base w sb rb n G X t G' X' t' K) {b : Nat} {o : Obj} (hm : (b, o) ∈ K) : w.heap[b]? = some o := by
  obtain ⟨gm, fv, F, B, XR, hS, hF, hR, hX, hd, hK⟩ := h
  exact (hK _ hm).1
theorem Bk.drop (h : Bk base w sb rb n G X t G' X' t' K) {K' : List (Nat × Obj)} (hm : ∀ p ∈ K', p ∈ K) : Bk base w sb rb n G X t G' X' t' K' := by
  obtain ⟨gm, fv, F, B, XR, hS, hF, hR, hX, hd, hK⟩ := h
  exact ⟨gm, fv, F, B, XR, hS, hF, hR, hX, hd, fun p hp => hK p (hm p hp)⟩
theorem Bk.size (h : Bk base w sb rb n G X t G' X' t' K) : base ≤ w.heap.size := by
  obtain ⟨gm, fv, F, B, XR, hS, hF, hR, hX, hd, hK⟩ := h
  exact hS.hz
theorem Bk.sbz (h : Bk base w sb rb n G X t G' X' t' K) : sb < w.heap.size := by
  obtain ⟨gm, fv, F, B, XR, hS, hF, hR, hX, hd, hK⟩ := h
  exact hS.hsz
theorem Bk.rbz (h : Bk base w sb rb n G X t G' X' t' K) : base ≤ rb ∧ rb < w.heap.size := by
  obtain ⟨gm, fv, F, B, XR, hS, hF, ⟨gA, fA, cA, gc, fc, cc, hR⟩, hX, hd, hK⟩ := h
  exact ⟨hR.hrb, hR.hrz⟩
theorem Bk.rises (h : Bk base w sb rb n G X t G' X' t' K) : RisesV G := by
  obtain ⟨gm, fv, F, B, XR, hS, hF, hR, hX, hd, hK⟩ := h
  exact hS.rises
theorem Bk.rcells (h : Bk base w sb rb n G X t G' X' t' K) : ∃ gA gc, w.cell? ⟨rb, 0, none⟩ = some (.slice gA G'.length gc) ∧ w.cell? ⟨rb, 3, none⟩ = some (.int .i64 t') ∧ VarsAt w gA G' := by
  obtain ⟨gm, fv, F, B, XR, hS, hF, ⟨gA, fA, cA, gc, fc, cc, hR⟩, hX, hd, hK⟩ := h
  exact ⟨gA, gc, hR.c0, hR.c3, src_vars hR.rg.1⟩
theorem Bk.box (h : Bk base w sb rb n G X t G' X' t' K) {b : Nat} {v : Vr} (hm : (b, boxO v) ∈ K) :
    w.cell? ⟨b, 0, none⟩ = some (.string v.name) ∧ w.cell? ⟨b, 1, none⟩ = some (.string v.val) ∧ w.cell? ⟨b, 2, none⟩ = some (.int .i64 v.fl) ∧ w.cell? ⟨b, 3, none⟩ = some (.int .i64 v.og) := by
  have hb := h.at hm
  exact ⟨cell_of_block (j := 0) hb, cell_of_block (j := 1) hb, cell_of_block (j := 2) hb, cell_of_block (j := 3) hb⟩
/-- Variables in a block that stays. -/
def InK (w : World) (K : List (Nat × Obj)) (A : Option Addr) (l : List Vr) : Prop := VarsAt w A l ∧ (0 < l.length → ∀ a, A = some a → ∃ o, (a.block, o) ∈ K)
theorem InK.kept {A : Option Addr} {l : List Vr} (h : InK w K A l) (h1 : ∀ p ∈ K, w.heap[p.1]? = some p.2) (h2 : ∀ p ∈ K, w'.heap[p.1]? = some p.2) : InK w' K A l := by
  refine ⟨fun hp => ?_, h.2⟩
  obtain ⟨b, off, rfl, hz, hc⟩ := h.1 hp
  obtain ⟨o, ho⟩ := h.2 hp _ rfl
  have e := (h2 _ ho).trans (h1 _ ho).symm
  refine ⟨b, off, rfl, lt_heap (h2 _ ho), fun j v hj => ?_⟩
  obtain ⟨c0, c1, c2, c3⟩ := hc j v hj
  exact ⟨(cells_kept e).trans c0, (cells_kept e).trans c1, (cells_kept e).trans c2, (cells_kept e).trans c3⟩
theorem Bk.stay (h : Bk base w sb rb n G X t G' X' t' K) : ∀ p ∈ K, w.heap[p.1]? = some p.2 := by
  obtain ⟨gm, fv, F, B, XR, hS, hF, hR, hX, hd, hK⟩ := h
  exact fun p hp => (hK p hp).1

theorem Bk.knr (h : Bk base w sb rb n G X t G' X' t' K) : ∀ p ∈ K, p.1 ≠ rb := by
  obtain ⟨gm, fv, F, B, XR, hS, hF, hR, hX, hd, hK⟩ := h
  exact fun p hp => (hK p hp).2.2
/-- Behind a call on the store. -/
theorem Bk.moved {n' : Nat} {Gn : List Vr} {F F0 : List Fr} {tn : Int} {gm : Nat} {fv fv0 : Value} {B : Nat → Prop} {XR : List Rf} {Xn : List (List Vr × Bool)} (h0 : StoreV base w sb n G F0 t gm fv0) (hR : RefS base w rb B G' XR t') (hX : XR.map (fun f => f.2.2) = X') (hd : ∀ k, Foot sb gm fv0 F0 k → k ≠ rb ∧ ¬ B k)
    (hK : ∀ p ∈ K, w.heap[p.1]? = some p.2 ∧ ¬ Foot sb gm fv0 F0 p.1 ∧ p.1 ≠ rb) (h : Moved base w w' sb n' Gn F tn gm fv F0 fv0) (hF : F.map (fun f => f.2) = Xn) : Bk base w' sb rb n' Gn Xn tn G' X' t' K ∧ Below base w w' := by
  obtain ⟨gA, fA, cA, gc, fc, cc, hR⟩ := hR
  refine ⟨⟨gm, fv, F, B, XR, h.store, hF, ⟨_, _, _, _, _, _, hR.kept h.apart hd⟩, hX, fun k hk => ?_, fun p hp => ?_⟩, h.below h0⟩
  · rcases h.own k hk with hh | hh
    · exact hd k hh
    · exact ⟨by have := hR.hrz; omega, fun hb => by have := (hR.hBz k hb).2; omega⟩
  · obtain ⟨h1, h2, h3⟩ := hK p hp
    have hl := lt_heap h1
    refine ⟨(h.apart.block p.1 hl h2).trans h1, fun hf => ?_, h3⟩
    rcases h.own _ hf with hh | hh
    · exact h2 hh
    · omega
/-- Behind a call on the reference. -/
theorem Bk.rmoved {F : List Fr} {gm : Nat} {fv : Value} {B : Nat → Prop} {XR : List Rf} {Gn : List Vr} {tn : Int} {Xn : List (List Vr × Bool)} (hS : StoreV base w sb n G F t gm fv) (hF : F.map (fun f => f.2) = X) (hrz : base ≤ rb) (hd : ∀ k, Foot sb gm fv F k → k ≠ rb ∧ ¬ B k)
    (hK : ∀ p ∈ K, w.heap[p.1]? = some p.2 ∧ ¬ Foot sb gm fv F p.1 ∧ p.1 ≠ rb) (h : RMoved base w w' rb B Gn XR tn) (hX : XR.map (fun f => f.2.2) = Xn) : Bk base w' sb rb n G X t Gn Xn tn K ∧ Below base w w' := by
  obtain ⟨B', hR, hB, hA⟩ := h
  refine ⟨⟨gm, fv, F, B', XR, hS.kept hA (fun k e hf => (hd k hf).1 e), hF, hR, hX, fun k hk => ⟨(hd k hk).1, fun hb => ?_⟩, fun p hp => ?_⟩, hA.below hS.hz (fun k e => by rw [e]; exact hrz)⟩
  · rcases hB k hb with hh | hh
    · exact (hd k hk).2 hh
    · have := (hS.footz k hk).2; omega
  · obtain ⟨h1, h2, h3⟩ := hK p hp
    exact ⟨(hA.block p.1 (lt_heap h1) h3).trans h1, h2, h3⟩

theorem Set_bk (h : Bk base w sb rb n G X t G' X' t' K) (v : Vr) (hv : v.name.size ≤ maxLen) (hn : n < maxLen) :
    Calls Tryd.prog 21 #[.pointer (some ⟨sb, 0, none⟩), .agg #[.string v.name, .string v.val, .int .i64 v.fl, .int .i64 v.og]] w fun e w' => e = .returned (.tuple #[]) ∧ Bk base w' sb rb (n + 1) (setG G v) X (wrap64 (t + 1)) G' X' t' K ∧ Below base w w' := by
  obtain ⟨gm, fv, F, B, XR, hS, hF, hR, hX, hd, hK⟩ := h
  refine (Set.calls hS v hv hn).mono ?_
  rintro e w' ⟨rfl, hM⟩
  exact ⟨rfl, Bk.moved hS hR hX hd hK hM hF⟩
theorem Drop_bk (h : Bk base w sb rb n G X t G' X' t' K) (x : ByteArray) (hx : x.size ≤ maxLen) :
    Calls Tryd.prog 20 #[.pointer (some ⟨sb, 0, none⟩), .string x] w fun e w' => e = .returned (.tuple #[]) ∧ Bk base w' sb rb n (dropG G x) X (wrap64 (t + 1)) G' X' t' K ∧ Below base w w' := by
  obtain ⟨gm, fv, F, B, XR, hS, hF, hR, hX, hd, hK⟩ := h
  refine (Drop.calls hS x hx).mono ?_
  rintro e w' ⟨rfl, hM⟩
  exact ⟨rfl, Bk.moved hS hR hX hd hK hM hF⟩
theorem Pop_bk (h : Bk base w sb rb n G X t G' X' t' K) :
    Calls Tryd.prog 12 #[.pointer (some ⟨sb, 0, none⟩)] w fun e w' => e = .returned (.tuple #[]) ∧ Bk base w' sb rb n G X.dropLast (wrap64 (t + 1)) G' X' t' K ∧ Below base w w' := by
  obtain ⟨gm, fv, F, B, XR, hS, hF, hR, hX, hd, hK⟩ := h
  refine (Pop.calls hS).mono ?_
  rintro e w' ⟨rfl, fv', hM⟩
  exact ⟨rfl, Bk.moved hS hR hX hd hK hM (by rw [List.map_dropLast, hF])⟩
theorem Push_bk (h : Bk base w sb rb n G X t G' X' t' K) (hXl : X.length < 1000) (l : List Vr) (A : Option Addr) (c : Nat) (call : Bool)
    (hL : VarsAt w A l) (hA : ∀ b off, A = some ⟨b, off, none⟩ → b ≠ sb) (hl : l.length ≤ 1000000) (hn : Names l) :
    Calls Tryd.prog 10 #[.pointer (some ⟨sb, 0, none⟩), .slice A l.length c, .bool call] w fun e w' => e = .returned (.tuple #[]) ∧ Bk base w' sb rb n G (X ++ [(l, call)]) (wrap64 (t + 1)) G' X' t' K ∧ Below base w w' := by
  obtain ⟨gm, fv, F, B, XR, hS, hF, hR, hX, hd, hK⟩ := h
  have hL2 : VarsAt (w.setCell ⟨sb, 3, none⟩ (.int .i64 (wrap64 (t + 1)))) A l := by
    intro hp
    obtain ⟨b, off, rfl, hz, hc⟩ := hL hp
    have hk : (w.setCell ⟨sb, 3, none⟩ (.int .i64 (wrap64 (t + 1)))).heap[b]? = w.heap[b]? := Below.heap_setCell _ _ _ _ (hA b off rfl)
    refine ⟨b, off, rfl, by simpa [World.setCell] using hz, fun j v hj => ?_⟩
    obtain ⟨h0, h1, h2, h3⟩ := hc j v hj
    exact ⟨(cells_kept hk).trans h0, (cells_kept hk).trans h1, (cells_kept hk).trans h2, (cells_kept hk).trans h3⟩
  refine (Push.calls hS (by rw [← hF] at hXl; simpa using hXl) l A c call hL2 hl hn).mono ?_
  rintro e w' ⟨rfl, b, fv', hM⟩
  exact ⟨rfl, Bk.moved hS hR hX hd hK hM (by rw [List.map_append, hF]; rfl)⟩
theorem Get_bk (h : Bk base w sb rb n G X t G' X' t' K) (x : ByteArray) (hx : x.size ≤ maxLen) {u : Vr} {k : Bool} (hg : getX G X x = (u, k)) :
    Calls Tryd.prog 11 #[.pointer (some ⟨sb, 0, none⟩), .string x] w fun e w' => e = .returned (.tuple #[.agg #[.string u.name, .string u.val, .int .i64 u.fl, .int .i64 u.og], .bool k]) ∧ Bk base w' sb rb n G X t G' X' t' K ∧ Below w.heap.size w w' := by
  have h2 := h
  obtain ⟨gm, fv, F, B, XR, hS, hF, hR, hX, hd, hK⟩ := h
  refine (Get.calls hS x hx).mono ?_
  rintro e w' ⟨rfl, hb⟩
  rw [getR_X, hF, hg]
  exact ⟨rfl, h2.later hb, hb⟩
theorem All_bk (h : Bk base w sb rb n G X t G' X' t' K) (hG : G.length ≤ 100000) :
    Calls Tryd.prog 22 #[.pointer (some ⟨sb, 0, none⟩)] w (fun e w' => ∃ A c, e = .returned (.slice A G.length c) ∧ VarsAt w' A G ∧ Bk base w' sb rb n G X t G' X' t' K ∧ Below w.heap.size w w') := by
  have h2 := h
  obtain ⟨gm, fv, F, B, XR, hS, hF, hR, hX, hd, hK⟩ := h
  refine (All.calls hS hG).mono ?_
  rintro e w' ⟨A, c, rfl, hv, hb⟩
  exact ⟨A, c, rfl, hv, h2.later hb, hb⟩
theorem Turns_bk (h : Bk base w sb rb n G X t G' X' t' K) :
    Calls Tryd.prog 13 #[.pointer (some ⟨sb, 0, none⟩)] w fun e w' => e = .returned (.int .i64 t) ∧ w = w' := by
  obtain ⟨gm, fv, F, B, XR, hS, hF, hR, hX, hd, hK⟩ := h
  refine (Turns.calls hS).mono ?_
  rintro e w' ⟨rfl, rfl⟩
  exact ⟨rfl, rfl⟩

theorem rSet_bk (h : Bk base w sb rb n G X t G' X' t' K) (hG : RisesV G') (hln : G'.length < 1000) (v : Vr) :
    Calls Tryd.prog 26 #[.pointer (some ⟨rb, 0, none⟩), .agg #[.string v.name, .string v.val, .int .i64 v.fl, .int .i64 v.og]] w fun e w' => e = .returned (.tuple #[]) ∧ Bk base w' sb rb n G X t (setG G' v) X' (wrap64 (t' + 1)) K ∧ Below base w w' := by
  obtain ⟨gm, fv, F, B, XR, hS, hF, ⟨gA, fA, cA, gc, fc, cc, hR⟩, hX, hd, hK⟩ := h
  refine (RSet.calls hR hG hln v).mono ?_
  rintro e w' ⟨rfl, hM⟩
  exact ⟨rfl, Bk.rmoved hS hF hR.hrb hd hK hM hX⟩
theorem rDrop_bk (h : Bk base w sb rb n G X t G' X' t' K) (hG : RisesV G') (x : ByteArray) :
    Calls Tryd.prog 27 #[.pointer (some ⟨rb, 0, none⟩), .string x] w fun e w' => e = .returned (.tuple #[]) ∧ Bk base w' sb rb n G X t (dropG G' x) X' (wrap64 (t' + 1)) K ∧ Below base w w' := by
  obtain ⟨gm, fv, F, B, XR, hS, hF, ⟨gA, fA, cA, gc, fc, cc, hR⟩, hX, hd, hK⟩ := h
  refine (RDrop.calls hR hG x).mono ?_
  rintro e w' ⟨rfl, hM⟩
  exact ⟨rfl, Bk.rmoved hS hF hR.hrb hd hK hM hX⟩
theorem rPop_bk (h : Bk base w sb rb n G X t G' X' t' K) :
    Calls Tryd.prog 29 #[.pointer (some ⟨rb, 0, none⟩)] w fun e w' => e = .returned (.tuple #[]) ∧ Bk base w' sb rb n G X t G' X'.dropLast (wrap64 (t' + 1)) K ∧ Below base w w' := by
  obtain ⟨gm, fv, F, B, XR, hS, hF, ⟨gA, fA, cA, gc, fc, cc, hR⟩, hX, hd, hK⟩ := h
  by_cases hx : XR = []
  · subst hx
    subst hX
    refine (RPop.calls_none hR).mono ?_
    rintro e w' ⟨rfl, hM⟩
    exact ⟨rfl, Bk.rmoved hS hF hR.hrb hd hK hM rfl⟩
  · have e := List.dropLast_concat_getLast hx
    generalize hA : XR.dropLast = A at e
    generalize XR.getLast hx = f at e
    subst e
    refine (RPop.calls_some hR).mono ?_
    rintro e w' ⟨rfl, hM⟩
    exact ⟨rfl, Bk.rmoved hS hF hR.hrb hd hK hM (by rw [← hX]; simp)⟩
theorem rPush_bk (h : Bk base w sb rb n G X t G' X' t' K) (hXl : X'.length < 1000) (l : List Vr) (A : Option Addr) (c : Nat) (call : Bool)
    (hL : VarsAt w A l) (hA : 0 < l.length → ∀ b off, A = some ⟨b, off, none⟩ → b ≠ rb) (hl : l.length ≤ 1000) :
    Calls Tryd.prog 28 #[.pointer (some ⟨rb, 0, none⟩), .slice A l.length c, .bool call] w fun e w' => e = .returned (.tuple #[]) ∧ Bk base w' sb rb n G X t G' (X' ++ [(l, call)]) (wrap64 (t' + 1)) K ∧ Below base w w' := by
  obtain ⟨gm, fv, F, B, XR, hS, hF, ⟨gA, fA, cA, gc, fc, cc, hR⟩, hX, hd, hK⟩ := h
  have hL2 : Src (w.setCell ⟨rb, 3, none⟩ (.int .i64 (wrap64 (t' + 1)))) A l.length 4 (varsV l) := by
    have hs := vars_src hL
    refine ⟨hs.1, fun hp => ?_⟩
    obtain ⟨b, off, rfl, hz, hc⟩ := hs.2 hp
    exact ⟨b, off, rfl, by simpa [World.setCell] using hz, fun j u hu => (cells_kept (Below.heap_setCell _ _ _ _ (hA hp b off rfl))).trans (hc j u hu)⟩
  refine (RPush.calls hR (by rw [← hX] at hXl; simpa using hXl) l A c call hl hL2).mono ?_
  rintro e w' ⟨rfl, a, c', hM⟩
  exact ⟨rfl, Bk.rmoved hS hF hR.hrb hd hK hM (by rw [List.map_append, hX]; rfl)⟩
theorem rGet_bk (h : Bk base w sb rb n G X t G' X' t' K) (x : ByteArray) (hx : x.size ≤ maxLen) {u : Vr} {k : Bool} (hg : getX G' X' x = (u, k)) :
    Calls Tryd.prog 30 #[.pointer (some ⟨rb, 0, none⟩), .string x] w fun e w' => e = .returned (.tuple #[.agg #[.string u.name, .string u.val, .int .i64 u.fl, .int .i64 u.og], .bool k]) ∧ Bk base w' sb rb n G X t G' X' t' K ∧ Below w.heap.size w w' := by
  have h2 := h
  obtain ⟨gm, fv, F, B, XR, hS, hF, ⟨gA, fA, cA, gc, fc, cc, hR⟩, hX, hd, hK⟩ := h
  refine (RGet.calls hR x hx).mono ?_
  rintro e w' ⟨he, hb⟩
  rw [hX, hg] at he
  exact ⟨he, h2.later hb, hb⟩
end
end Go.Proofs.YtjmaficiinhjpaaDoor.G
