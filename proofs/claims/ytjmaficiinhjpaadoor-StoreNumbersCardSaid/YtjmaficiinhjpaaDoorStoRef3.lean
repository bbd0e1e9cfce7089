/- the reference's store: Pop, Drop. -/
import Derived.Test.YtjmaficiinhjpaaDoorStoRef2
import Derived.Deep.RegionHeld3
namespace Go.Proofs.YtjmaficiinhjpaaDoor.G
open Go.RowKit Go.Maps Go.WideMaps Go.Sort

/-- Behind a call on the reference. -/
def RMoved (base : Nat) (w w' : World) (rb : Nat) (B : Nat → Prop) (G : List Vr) (X : List Rf) (turns : Int) : Prop :=
  ∃ B' : Nat → Prop, RefS base w' rb B' G X turns ∧ (∀ k, B' k → B k ∨ w.heap.size ≤ k) ∧ Apart (fun k => k = rb) w w'
theorem apart_put {w : World} {rb j : Nat} (u : Value) : Apart (fun k => k = rb) w (w.setCell ⟨rb, j, none⟩ u) :=
  Apart.mono (F' := fun k => k = rb) (Apart.of_grown (grownBy_store (p := ⟨rb, j, none⟩) _)) (fun _ _ e => (Option.some.inj e).symm)
theorem RefV.counted {base : Nat} {w : World} {rb : Nat} {B : Nat → Prop} {G : List Vr} {X : List Rf} {turns : Int} {gA fA cA : Option Addr} {gc fc cc : Nat} (h : RefV base w rb B G X turns gA fA cA gc fc cc) (t : Int) : RefV base (w.setCell ⟨rb, 3, none⟩ (.int .i64 t)) rb B G X t gA fA cA gc fc cc := by
  have hA : Apart (fun k => k = rb) w (w.setCell ⟨rb, 3, none⟩ (.int .i64 t)) := apart_put _
  have hP : ∀ k, k = rb → ¬ B k := fun k e => by rw [e]; exact h.hB
  refine ⟨?_, ?_, ?_, ?_, ?_, ?_, ?_, ?_, h.rg.kept hA hP, h.rf.kept hA hP, h.rc.kept hA hP, fun f hf => ⟨(h.fr f hf).1.kept hA hP, (h.fr f hf).2⟩, h.hgc, h.hfc, h.hcc, h.hrb, Nat.lt_of_lt_of_le h.hrz hA.size, h.hB, fun k hk => ⟨(h.hBz k hk).1, Nat.lt_of_lt_of_le (h.hBz k hk).2 hA.size⟩, h.len, h.leng⟩
  · rw [World.cell?_setCell_other w ⟨rb, 3, none⟩ _ _ (by simp)]; exact h.c0
  · rw [World.cell?_setCell_other w ⟨rb, 3, none⟩ _ _ (by simp)]; exact h.c1
  · rw [World.cell?_setCell_other w ⟨rb, 3, none⟩ _ _ (by simp)]; exact h.c2
  · exact World.cell?_setCell_same w ⟨rb, 3, none⟩ _ h.c3
  · rw [World.frozen?_setCell]; exact h.f0
  · rw [World.frozen?_setCell]; exact h.f1
  · rw [World.frozen?_setCell]; exact h.f2
  · rw [World.frozen?_setCell]; exact h.f3
/-- Another ground stored. -/
theorem RefV.ground {base : Nat} {w : World} {rb : Nat} {B B' : Nat → Prop} {G G' : List Vr} {X : List Rf} {turns : Int} {gA fA cA : Option Addr} {gc fc cc : Nat} (h : RefV base w rb B G X turns gA fA cA gc fc cc) {A : Option Addr} {c : Nat}
    (hB : ∀ k, B k → B' k) (hB1 : ¬ B' rb) (hBz : ∀ k, B' k → base ≤ k ∧ k < w.heap.size) (hr : Rd w B' A G'.length 4 (varsV G')) (hc : G'.length ≤ c ∧ c ≤ maxLen) (hl : G'.length ≤ 1000) : RefV base (w.setCell ⟨rb, 0, none⟩ (.slice A G'.length c)) rb B' G' X turns A fA cA c fc cc := by
  have hA : Apart (fun k => k = rb) w (w.setCell ⟨rb, 0, none⟩ (.slice A G'.length c)) := apart_put _
  have hP : ∀ k, k = rb → ¬ B' k := fun k e => by rw [e]; exact hB1
  refine ⟨?_, ?_, ?_, ?_, ?_, ?_, ?_, ?_, hr.kept hA hP, (h.rf.mono hB).kept hA hP, (h.rc.mono hB).kept hA hP, fun f hf => ⟨((h.fr f hf).1.mono hB).kept hA hP, (h.fr f hf).2⟩, hc, h.hfc, h.hcc, h.hrb, Nat.lt_of_lt_of_le h.hrz hA.size, hB1, fun k hk => ⟨(hBz k hk).1, Nat.lt_of_lt_of_le (hBz k hk).2 hA.size⟩, h.len, hl⟩
  · exact World.cell?_setCell_same w ⟨rb, 0, none⟩ _ h.c0
  · rw [World.cell?_setCell_other w ⟨rb, 0, none⟩ _ _ (by simp)]; exact h.c1
  · rw [World.cell?_setCell_other w ⟨rb, 0, none⟩ _ _ (by simp)]; exact h.c2
  · rw [World.cell?_setCell_other w ⟨rb, 0, none⟩ _ _ (by simp)]; exact h.c3
  · rw [World.frozen?_setCell]; exact h.f0
  · rw [World.frozen?_setCell]; exact h.f1
  · rw [World.frozen?_setCell]; exact h.f2
  · rw [World.frozen?_setCell]; exact h.f3
/-- Other frames stored. -/
theorem RefV.frames {base : Nat} {w : World} {rb : Nat} {B B' : Nat → Prop} {G : List Vr} {X X' : List Rf} {turns : Int} {gA fA cA : Option Addr} {gc fc cc : Nat} (h : RefV base w rb B G X turns gA fA cA gc fc cc) {A A2 : Option Addr} {c c2 : Nat}
    (hB : ∀ k, B k → B' k) (hB1 : ¬ B' rb) (hBz : ∀ k, B' k → base ≤ k ∧ k < w.heap.size) (hr : Rd w B' A X'.length 1 (rfV X')) (hr2 : Rd w B' A2 X'.length 1 (rfC X')) (hf : ∀ f ∈ X', Rd w B' f.1 f.2.2.1.length 4 (varsV f.2.2.1) ∧ f.2.2.1.length ≤ 1000) (hc : X'.length ≤ c ∧ c ≤ maxLen) (hc2 : X'.length ≤ c2 ∧ c2 ≤ maxLen) (hl : X'.length ≤ 1000) :
    RefV base ((w.setCell ⟨rb, 1, none⟩ (.slice A X'.length c)).setCell ⟨rb, 2, none⟩ (.slice A2 X'.length c2)) rb B' G X' turns gA A A2 gc c c2 := by
  have hA : Apart (fun k => k = rb) w ((w.setCell ⟨rb, 1, none⟩ (.slice A X'.length c)).setCell ⟨rb, 2, none⟩ (.slice A2 X'.length c2)) := (apart_put _).andThen (apart_put _) (fun _ _ h => h)
  have hP : ∀ k, k = rb → ¬ B' k := fun k e => by rw [e]; exact hB1
  refine ⟨?_, ?_, ?_, ?_, ?_, ?_, ?_, ?_, (h.rg.mono hB).kept hA hP, hr.kept hA hP, hr2.kept hA hP, fun f hf' => ⟨(hf f hf').1.kept hA hP, (hf f hf').2⟩, h.hgc, hc, hc2, h.hrb, Nat.lt_of_lt_of_le h.hrz hA.size, hB1, fun k hk => ⟨(hBz k hk).1, Nat.lt_of_lt_of_le (hBz k hk).2 hA.size⟩, hl, h.leng⟩
  · rw [World.cell?_setCell_other _ ⟨rb, 2, none⟩ _ _ (by simp), World.cell?_setCell_other w ⟨rb, 1, none⟩ _ _ (by simp)]; exact h.c0
  · rw [World.cell?_setCell_other _ ⟨rb, 2, none⟩ _ _ (by simp)]; exact World.cell?_setCell_same w ⟨rb, 1, none⟩ _ h.c1
  · exact World.cell?_setCell_same _ ⟨rb, 2, none⟩ _ (by rw [World.cell?_setCell_other w ⟨rb, 1, none⟩ _ _ (by simp)]; exact h.c2)
  · rw [World.cell?_setCell_other _ ⟨rb, 2, none⟩ _ _ (by simp), World.cell?_setCell_other w ⟨rb, 1, none⟩ _ _ (by simp)]; exact h.c3
  · rw [World.frozen?_setCell, World.frozen?_setCell]; exact h.f0
  · rw [World.frozen?_setCell, World.frozen?_setCell]; exact h.f1
  · rw [World.frozen?_setCell, World.frozen?_setCell]; exact h.f2
  · rw [World.frozen?_setCell, World.frozen?_setCell]; exact h.f3

/-! ### Pop -/
theorem rpop_close {base : Nat} {w : World} {rb : Nat} {B : Nat → Prop} {G : List Vr} {X : List Rf} {f : Rf} {turns : Int} {gA fA cA : Option Addr} {gc fc cc q : Nat} (h : RefV base w rb B G (X ++ [f]) turns gA fA cA gc fc cc) (t : Int) :
    RMoved base w ((((w.setCell ⟨rb, 3, none⟩ (.int .i64 t)).drewN q).setCell ⟨rb, 1, none⟩ (.slice fA X.length fc)).setCell ⟨rb, 2, none⟩ (.slice cA X.length cc)) rb B G X t := by
  have h1 := (h.counted t).later (w' := (w.setCell ⟨rb, 3, none⟩ (.int .i64 t)).drewN q) ⟨rfl, rfl, rfl, Nat.le_refl _, fun _ _ => rfl⟩
  have hX : (X ++ [f]).length = X.length + 1 := by simp
  have hv : rfV X = (rfV (X ++ [f])).take (X.length * 1) := by unfold rfV; rw [List.map_append, List.take_left' (by simp)]
  have hv2 : rfC X = (rfC (X ++ [f])).take (X.length * 1) := by unfold rfC; rw [List.map_append, List.take_left' (by simp)]
  have hlen := h1.len
  have hf1 := h1.hfc
  have hc1 := h1.hcc
  rw [hX] at hlen hf1 hc1
  refine ⟨B, ⟨_, _, _, _, _, _, h1.frames (X' := X) (fun _ h => h) h.hB h1.hBz ⟨?_, fun hp a e => h1.rf.2 (by omega) a e⟩ ⟨?_, fun hp a e => h1.rc.2 (by omega) a e⟩ (fun g hg => h1.fr g (List.mem_append_left _ hg)) ⟨by omega, hf1.2⟩ ⟨by omega, hc1.2⟩ (by omega)⟩, fun k hk => Or.inl hk, ?_⟩
  · rw [hv]; exact h1.rf.1.take (by omega)
  · rw [hv2]; exact h1.rc.1.take (by omega)
  · have a1 : Apart (fun k => k = rb) w (w.setCell ⟨rb, 3, none⟩ (.int .i64 t)) := apart_put _
    have a2 : Apart (fun k => k = rb) (w.setCell ⟨rb, 3, none⟩ (.int .i64 t)) ((w.setCell ⟨rb, 3, none⟩ (.int .i64 t)).drewN q) := ⟨rfl, rfl, rfl, Nat.le_refl _, fun _ _ _ => rfl⟩
    exact ((a1.andThen a2 (fun _ _ h => h)).andThen (apart_put _) (fun _ _ h => h)).andThen (apart_put _) (fun _ _ h => h)

set_option maxHeartbeats 4000000 in
set_option maxRecDepth 100000 in
theorem RPop.calls_none {base : Nat} {w : World} {rb : Nat} {B : Nat → Prop} {G : List Vr} {turns : Int} {gA fA cA : Option Addr} {gc fc cc : Nat} (h : RefV base w rb B G [] turns gA fA cA gc fc cc) :
    Calls Tryd.prog 29 #[.pointer (some ⟨rb, 0, none⟩)] w fun e w' => e = .returned (.tuple #[]) ∧ RMoved base w w' rb B G [] (wrap64 (turns + 1)) := by
  have c3 := h.c3
  have f3 := h.f3
  have c1 := h.c1
  have a1 := Lib.hid (apart_put (w := w) (rb := rb) (j := 3) (.int .i64 (wrap64 (turns + 1))))
  have H2 := Lib.hid (h.counted (wrap64 (turns + 1)))
  simp only [List.length_nil] at c1
  clear h
  go_enter Tryd.func29, Tryd.ntmps29
  go_wp2
  go_end0
  exact ⟨rfl, B, ⟨_, _, _, _, _, _, H2.out⟩, fun k hk => Or.inl hk, a1.out⟩

set_option maxHeartbeats 4000000 in
set_option maxRecDepth 100000 in
theorem RPop.calls_some {base : Nat} {w : World} {rb : Nat} {B : Nat → Prop} {G : List Vr} {X : List Rf} {f : Rf} {turns : Int} {gA fA cA : Option Addr} {gc fc cc : Nat} (h : RefV base w rb B G (X ++ [f]) turns gA fA cA gc fc cc) :
    Calls Tryd.prog 29 #[.pointer (some ⟨rb, 0, none⟩)] w fun e w' => e = .returned (.tuple #[]) ∧ RMoved base w w' rb B G X (wrap64 (turns + 1)) := by
  have c3 := h.c3
  have f3 := h.f3
  have c1 := h.c1
  have c2 := h.c2
  have f1 := h.f1
  have f2 := h.f2
  have hlen := h.len
  have hfc := h.hfc
  have hcc := h.hcc
  have HP := Lib.hid (fun q => rpop_close (q := q) h (wrap64 (turns + 1)))
  obtain ⟨m, hm⟩ : ∃ m, m = X.length := ⟨_, rfl⟩
  have hmm : (X ++ [f]).length = m + 1 := by rw [hm]; simp
  rw [hmm] at c1 c2 hlen hfc hcc
  rw [← hm] at HP
  clear h hm hmm
  obtain ⟨hf1, hf2⟩ := hfc
  obtain ⟨hc1, hc2⟩ := hcc
  unfold maxLen at hf2 hc2
  have hgt : decide ((0 : Int) < ((m + 1 : Nat) : Int)) = true := by simp
  have hw : wrap64 (((m + 1 : Nat) : Int) - 1) = (m : Int) := by unfold wrap64; omega
  have hw3 : IntKind.i64.wrap ((m : Int) + 1 - 1) = (m : Int) := (IntWalk.i64_in _ (by omega)).trans (by omega)
  have hw4 : IntKind.i64.wrap (m : Int) = (m : Int) := IntWalk.i64_in _ (by omega)
  have hn1 : ((m : Int)).toNat = m := by simp
  have hl0 : ¬ ((m : Int) < 0) := by omega
  have hl1 : ¬ ((fc : Int) < (m : Int)) := by omega
  have hl2 : ¬ ((cc : Int) < (m : Int)) := by omega
  go_enter Tryd.func29, Tryd.ntmps29
  go_wp2
  go_region_law (fail)
  all_goals
    go_wp2
    go_end0
    exact ⟨rfl, HP.out _⟩
end Go.Proofs.YtjmaficiinhjpaaDoor.G
