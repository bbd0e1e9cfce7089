/- store: contracts in one state predicate (St); awake walked. -/
import Derived.Test.YtjmaficiinhjpaaDoorStoAllW
import Derived.Test.YtjmaficiinhjpaaDoorStoGet
import Derived.Test.YtjmaficiinhjpaaDoorStoPush
import Derived.Test.YtjmaficiinhjpaaDoorAppAny
import Derived.OwnWalk
namespace Go.Proofs.YtjmaficiinhjpaaDoor.G
open Go.RowKit Go.Maps Go.WideMaps Go.Sort

def downX (x : ByteArray) : List (List Vr × Bool) → Option (Vr × Bool)
  | [] => none
  | f :: r => match lookL f.1 x with
    | some v => some (v, true)
    | none => if f.2 = true ∧ digitsB x = true then some (zeroV, false) else downX x r
def getX (G : List Vr) (X : List (List Vr × Bool)) (x : ByteArray) : Vr × Bool := (downX x X.reverse).getD ((lookL G x).getD zeroV, (lookL G x).isSome)
theorem downF_X (x : ByteArray) : ∀ F : List Fr, downF x F = downX x (F.map (fun f => f.2))
  | [] => rfl
  | f :: F => by
    show (match lookL f.2.1 x with | some v => _ | none => _) = (match lookL f.2.1 x with | some v => _ | none => _)
    rw [downF_X x F]
theorem getR_X (G : List Vr) (F : List Fr) (x : ByteArray) : getR G F x = getX G (F.map (fun f => f.2)) x := by
  unfold getR getX
  rw [downF_X, List.map_reverse]
theorem downX_snoc {x : ByteArray} {X : List (List Vr × Bool)} {f : List Vr × Bool} : downX x (X ++ [f]).reverse = match lookL f.1 x with
    | some v => some (v, true)
    | none => if f.2 = true ∧ digitsB x = true then some (zeroV, false) else downX x X.reverse := by
  rw [List.reverse_append]; rfl

/-- A store: what its ground, its frames hold; how often it was turned. -/
def St (base : Nat) (w : World) (sb n : Nat) (G : List Vr) (X : List (List Vr × Bool)) (t : Int) : Prop :=
  ∃ gm fv F, StoreV base w sb n G F t gm fv ∧ F.map (fun f => f.2) = X
theorem Moved.below {base : Nat} {w w' : World} {sb n n0 : Nat} {G G0 : List Vr} {F : List Fr} {turns t0 : Int} {gm : Nat} {fv : Value} {F0 : List Fr} {fv0 : Value} (h : Moved base w w' sb n G F turns gm fv F0 fv0) (h0 : StoreV base w sb n0 G0 F0 t0 gm fv0) : Below base w w' :=
  h.apart.below h0.hz (fun k hk => (h0.footz k hk).1)
theorem St.later {base : Nat} {w w' : World} {sb n : Nat} {G : List Vr} {X : List (List Vr × Bool)} {t : Int} (h : St base w sb n G X t) (hb : Below w.heap.size w w') : St base w' sb n G X t := by
  obtain ⟨gm, fv, F, hS, hF⟩ := h
  exact ⟨gm, fv, F, hS.later hb, hF⟩
theorem St.size {base : Nat} {w : World} {sb n : Nat} {G : List Vr} {X : List (List Vr × Bool)} {t : Int} (h : St base w sb n G X t) : base ≤ w.heap.size := by
  obtain ⟨gm, fv, F, hS, hF⟩ := h
  exact hS.hz
theorem St.rises {base : Nat} {w : World} {sb n : Nat} {G : List Vr} {X : List (List Vr × Bool)} {t : Int} (h : St base w sb n G X t) : RisesV G := by
  obtain ⟨gm, fv, F, hS, hF⟩ := h
  exact hS.rises
theorem New_st (l : List Vr) (A : Option Addr) (c : Nat) (w : World) (hL : VarsAt w A l) (hl : l.length ≤ 1000000) (hn : Names l) :
    Calls Tryd.prog 7 #[.slice A l.length c] w fun e w' => ∃ sb, e = .returned (.pointer (some ⟨sb, 0, none⟩)) ∧ St w.heap.size w' sb l.length (foldG l) [] 0 ∧ Below w.heap.size w w' := by
  refine (New.calls l A c w hL hl hn).mono ?_
  rintro e w' ⟨sb, gm, rfl, hS, hb⟩
  exact ⟨sb, rfl, ⟨gm, _, [], hS, rfl⟩, hb⟩
theorem Set_st {base : Nat} {w : World} {sb n : Nat} {G : List Vr} {X : List (List Vr × Bool)} {t : Int} (h : St base w sb n G X t) (v : Vr) (hv : v.name.size ≤ maxLen) (hn : n < maxLen) :
    Calls Tryd.prog 21 #[.pointer (some ⟨sb, 0, none⟩), .agg #[.string v.name, .string v.val, .int .i64 v.fl, .int .i64 v.og]] w fun e w' => e = .returned (.tuple #[]) ∧ St base w' sb (n + 1) (setG G v) X (wrap64 (t + 1)) ∧ Below base w w' := by
  obtain ⟨gm, fv, F, hS, hF⟩ := h
  refine (Set.calls hS v hv hn).mono ?_
  rintro e w' ⟨rfl, hM⟩
  exact ⟨rfl, ⟨gm, fv, F, hM.store, hF⟩, hM.below hS⟩
theorem Drop_st {base : Nat} {w : World} {sb n : Nat} {G : List Vr} {X : List (List Vr × Bool)} {t : Int} (h : St base w sb n G X t) (x : ByteArray) (hx : x.size ≤ maxLen) :
    Calls Tryd.prog 20 #[.pointer (some ⟨sb, 0, none⟩), .string x] w fun e w' => e = .returned (.tuple #[]) ∧ St base w' sb n (dropG G x) X (wrap64 (t + 1)) ∧ Below base w w' := by
  obtain ⟨gm, fv, F, hS, hF⟩ := h
  refine (Drop.calls hS x hx).mono ?_
  rintro e w' ⟨rfl, hM⟩
  exact ⟨rfl, ⟨gm, fv, F, hM.store, hF⟩, hM.below hS⟩
theorem Pop_st {base : Nat} {w : World} {sb n : Nat} {G : List Vr} {X : List (List Vr × Bool)} {t : Int} (h : St base w sb n G X t) :
    Calls Tryd.prog 12 #[.pointer (some ⟨sb, 0, none⟩)] w fun e w' => e = .returned (.tuple #[]) ∧ St base w' sb n G X.dropLast (wrap64 (t + 1)) ∧ Below base w w' := by
  obtain ⟨gm, fv, F, hS, hF⟩ := h
  refine (Pop.calls hS).mono ?_
  rintro e w' ⟨rfl, fv', hM⟩
  exact ⟨rfl, ⟨gm, fv', _, hM.store, by rw [List.map_dropLast, hF]⟩, hM.below hS⟩
theorem Push_st {base : Nat} {w : World} {sb n : Nat} {G : List Vr} {X : List (List Vr × Bool)} {t : Int} (h : St base w sb n G X t) (hX : X.length < 1000) (l : List Vr) (A : Option Addr) (c : Nat) (call : Bool)
    (hL : ∀ W, Apart (fun k => k = sb) w W → VarsAt W A l) (hl : l.length ≤ 1000000) (hn : Names l) :
    Calls Tryd.prog 10 #[.pointer (some ⟨sb, 0, none⟩), .slice A l.length c, .bool call] w fun e w' => e = .returned (.tuple #[]) ∧ St base w' sb n G (X ++ [(l, call)]) (wrap64 (t + 1)) ∧ Below base w w' := by
  obtain ⟨gm, fv, F, hS, hF⟩ := h
  refine (Push.calls hS (by rw [← hF] at hX; simpa using hX) l A c call (hL _ (Apart.mono (F' := fun k => k = sb) (Apart.of_grown (grownBy_store (p := ⟨sb, 3, none⟩) _)) (fun _ _ e => (Option.some.inj e).symm))) hl hn).mono ?_
  rintro e w' ⟨rfl, b, fv', hM⟩
  exact ⟨rfl, ⟨gm, fv', _, hM.store, by rw [List.map_append, hF]; rfl⟩, hM.below hS⟩
theorem Get_st {base : Nat} {w : World} {sb n : Nat} {G : List Vr} {X : List (List Vr × Bool)} {t : Int} (h : St base w sb n G X t) (x : ByteArray) (hx : x.size ≤ maxLen) {u : Vr} {k : Bool} (hg : getX G X x = (u, k)) :
    Calls Tryd.prog 11 #[.pointer (some ⟨sb, 0, none⟩), .string x] w fun e w' => e = .returned (.tuple #[.agg #[.string u.name, .string u.val, .int .i64 u.fl, .int .i64 u.og], .bool k]) ∧ St base w' sb n G X t ∧ Below w.heap.size w w' := by
  obtain ⟨gm, fv, F, hS, hF⟩ := h
  refine (Get.calls hS x hx).mono ?_
  rintro e w' ⟨rfl, hb⟩
  rw [getR_X, hF, hg]
  exact ⟨rfl, ⟨gm, fv, F, hS.later hb, hF⟩, hb⟩
theorem All_st {base : Nat} {w : World} {sb n : Nat} {G : List Vr} {X : List (List Vr × Bool)} {t : Int} (h : St base w sb n G X t) (hG : G.length ≤ 100000) :
    Calls Tryd.prog 22 #[.pointer (some ⟨sb, 0, none⟩)] w (fun e w' => ∃ A c, e = .returned (.slice A G.length c) ∧ VarsAt w' A G ∧ St base w' sb n G X t ∧ Below w.heap.size w w') := by
  obtain ⟨gm, fv, F, hS, hF⟩ := h
  refine (All.calls hS hG).mono ?_
  rintro e w' ⟨A, c, rfl, hv, hb⟩
  exact ⟨A, c, rfl, hv, ⟨gm, fv, F, hS.later hb, hF⟩, hb⟩
theorem Turns_st {base : Nat} {w : World} {sb n : Nat} {G : List Vr} {X : List (List Vr × Bool)} {t : Int} (h : St base w sb n G X t) :
    Calls Tryd.prog 13 #[.pointer (some ⟨sb, 0, none⟩)] w fun e w' => e = .returned (.int .i64 t) ∧ w = w' := by
  obtain ⟨gm, fv, F, hS, hF⟩ := h
  refine (Turns.calls hS).mono ?_
  rintro e w' ⟨rfl, rfl⟩
  exact ⟨rfl, rfl⟩

end Go.Proofs.YtjmaficiinhjpaaDoor.G
