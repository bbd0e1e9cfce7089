/- store: Drop, Pop walked. -/
import Derived.Test.YtjmaficiinhjpaaDoorStoOps2
namespace Go.Proofs.YtjmaficiinhjpaaDoor.G
open Go.RowKit Go.Maps Go.Sort Go.WideMaps

theorem apart_store {w : World} {sb gm j : Nat} {fv : Value} {F : List Fr} (u : Value) : Apart (Foot sb gm fv F) w (w.setCell ⟨sb, j, none⟩ u) :=
  Apart.mono (F' := Foot sb gm fv F) (Apart.of_grown (grownBy_store (p := ⟨sb, j, none⟩) _)) (fun _ _ e => Or.inl (Option.some.inj e).symm)

set_option maxHeartbeats 4000000 in
set_option maxRecDepth 100000 in
theorem Drop.calls {base : Nat} {w : World} {sb n : Nat} {G : List Vr} {F : List Fr} {turns : Int} {gm : Nat} {fv : Value} (h : StoreV base w sb n G F turns gm fv) (x : ByteArray) (hx : x.size ≤ maxLen) :
    Calls Tryd.prog 20 #[.pointer (some ⟨sb, 0, none⟩), .string x] w fun e w' => e = .returned (.tuple #[]) ∧ Moved base w w' sb n (dropG G x) F (wrap64 (turns + 1)) gm fv F fv := by
  have hkey := key_mk x hx
  have h2 := h.counted (wrap64 (turns + 1))
  have H2 := Lib.hid h2
  have c3 := h.c3
  have f3 := h.f3
  have a1 := Lib.hid (apart_store (sb := sb) (j := 3) (gm := gm) (fv := fv) (F := F) (w := w) (.int .i64 (wrap64 (turns + 1))))
  have c0 := h.c0
  obtain ⟨D, hown, hat, hhas⟩ := h2.mp
  have HOWN := Lib.hid hown
  have HAT := Lib.hid hat
  have HHAS := Lib.hid hhas
  clear h h2 hown hat hhas
  go_enter Tryd.func20, Tryd.ntmps20
  go_wp2_with (first
    | (at_delete; refine wpList_delete_own _ rfl _ _ 51 9 rfl 27 str_law Tryd.underlying51 varR gm n D rfl HOWN.out _ _ rfl hkey ?_; intro w3 hown3 hturn3)
    | go_in)
  go_end0
  refine ⟨rfl, ?_⟩
  have h2 := H2.out
  have hm : StrMap w3 gm n (lookD (dropG G x)) := ⟨_, hown3, fun y z => by rw [lookD_dropG]; exact atKey_del HAT.out x y z, fun y => by rw [lookD_dropG]; exact has_del HHAS.out x y⟩
  have h4 := h2.ground hturn3.grown hm (dropG_rises h2.rises x)
  exact StoreV.moved_refl h4 (a1.out.andThen (Apart.of_grown hturn3.grown) (fun k _ e => Or.inr (Or.inl (Option.some.inj e).symm)))

/-- A store of a shorter row. -/
theorem StoreV.popped {base : Nat} {w : World} {sb n : Nat} {G : List Vr} {F : List Fr} {f : Fr} {turns : Int} {gm g cap : Nat} (h : StoreV base w sb n G (F ++ [f]) turns gm (.slice (some ⟨g, 0, none⟩) (F ++ [f]).length cap)) :
    StoreV base (w.setCell ⟨sb, 2, none⟩ (.slice (some ⟨g, 0, none⟩) F.length cap)) sb n G F turns gm (.slice (some ⟨g, 0, none⟩) F.length cap) := by
  have hk : ∀ k, k ≠ sb → (w.setCell ⟨sb, 2, none⟩ (.slice (some ⟨g, 0, none⟩) F.length cap)).heap[k]? = w.heap[k]? := fun k hk => Below.heap_setCell _ _ _ _ (by exact hk)
  have hst := grownBy_store (w := w) (p := ⟨sb, 2, none⟩) (.slice (some ⟨g, 0, none⟩) F.length cap)
  have hgs : g ≠ sb := fun e => h.ne2 (by rw [← e]; rfl)
  have hlen := h.len
  refine ⟨?_, ?_, ?_, ?_, ?_, h.mp.kept (hk gm h.ne1), ?_, fun x hx => ?_, h.hsb, Nat.lt_of_lt_of_le h.hsz hst.size, h.hgm, h.ne1, h.ne2, h.ne3, Nat.le_trans h.hz hst.size, by simp at hlen; omega, h.rises⟩
  · rw [World.cell?_setCell_other w ⟨sb, 2, none⟩ _ _ (by simp)]; exact h.c0
  · exact World.cell?_setCell_same w ⟨sb, 2, none⟩ _ h.c2
  · rw [World.cell?_setCell_other w ⟨sb, 2, none⟩ _ _ (by simp)]; exact h.c3
  · rw [World.frozen?_setCell]; exact h.f2
  · rw [World.frozen?_setCell]; exact h.f3
  · rcases h.row.2 with ⟨e, _⟩ | ⟨g', cap', cur, e, hb, hg, h1, h2, h3, h4⟩
    · cases e
    · cases e
      refine ⟨?_, .inr ⟨g, cap, cur, rfl, hb, (hk g hgs).trans hg, by simp at h1; omega, h2, h3, ?_⟩⟩
      · rw [frV_len]
      · have h5 : (cur.toList.take ((F ++ [f]).length * 2)).take (F.length * 2) = (frV (F ++ [f])).take (F.length * 2) := by rw [h4]
        rw [List.take_take, Nat.min_eq_left (by simp; omega)] at h5
        rw [h5, frV_snoc, List.take_left' (frV_len F)]
  · obtain ⟨⟨k, hm⟩, hr⟩ := h.fm x (List.mem_append_left _ hx)
    exact ⟨⟨k, hm.kept (hk x.1 hr.2.1)⟩, hr⟩

set_option maxHeartbeats 4000000 in
set_option maxRecDepth 100000 in
theorem Pop.calls_none {base : Nat} {w : World} {sb n : Nat} {G : List Vr} {turns : Int} {gm : Nat} {fv : Value} (h : StoreV base w sb n G [] turns gm fv) :
    Calls Tryd.prog 12 #[.pointer (some ⟨sb, 0, none⟩)] w fun e w' => e = .returned (.tuple #[]) ∧ Moved base w w' sb n G [] (wrap64 (turns + 1)) gm fv [] fv := by
  have c3 := h.c3
  have f3 := h.f3
  have c2 := h.c2
  obtain ⟨a, c, rfl⟩ : ∃ a c, fv = .slice a 0 c := by
    rcases h.row.2 with ⟨rfl, _⟩ | ⟨g, cap, cur, rfl, _⟩
    · exact ⟨_, _, rfl⟩
    · exact ⟨_, _, rfl⟩
  have a1 := Lib.hid (apart_store (sb := sb) (j := 3) (gm := gm) (fv := .slice a 0 c) (F := []) (w := w) (.int .i64 (wrap64 (turns + 1))))
  have H2 := Lib.hid (h.counted (wrap64 (turns + 1)))
  clear h
  go_enter Tryd.func12, Tryd.ntmps12
  go_wp2
  go_end0
  exact ⟨rfl, StoreV.moved_refl H2.out a1.out⟩

set_option maxHeartbeats 4000000 in
set_option maxRecDepth 100000 in
theorem Pop.calls_some {base : Nat} {w : World} {sb n : Nat} {G : List Vr} {F : List Fr} {f : Fr} {turns : Int} {gm : Nat} {fv : Value} (h : StoreV base w sb n G (F ++ [f]) turns gm fv) :
    Calls Tryd.prog 12 #[.pointer (some ⟨sb, 0, none⟩)] w fun e w' => e = .returned (.tuple #[]) ∧ ∃ fv', Moved base w w' sb n G F (wrap64 (turns + 1)) gm fv' (F ++ [f]) fv := by
  have c3 := h.c3
  have f3 := h.f3
  have c2 := h.c2
  have f2 := h.f2
  have hlen := h.len
  rcases h.row.2 with ⟨_, h0⟩ | ⟨g, cap, cur, rfl, hb, hg, h1, h2, h3, h4⟩
  · simp at h0
  obtain ⟨m, hm⟩ : ∃ m, m = F.length := ⟨_, rfl⟩
  have hmm : (F ++ [f]).length = m + 1 := by rw [hm]; simp
  have a1 := Lib.hid (apart_store (sb := sb) (j := 3) (gm := gm) (fv := .slice (some ⟨g, 0, none⟩) (F ++ [f]).length cap) (F := F ++ [f]) (w := w) (.int .i64 (wrap64 (turns + 1))))
  have H2 := Lib.hid ((h.counted (wrap64 (turns + 1))).popped)
  have H1 := Lib.hid hm
  rw [hmm] at c2 hlen h1
  have H3 := Lib.hid h
  clear h h3 h4 hg hm
  unfold maxLen at h2
  have hgt : decide ((0 : Int) < ((m + 1 : Nat) : Int)) = true := by simp
  have hw : wrap64 (((m + 1 : Nat) : Int) - 1) = (m : Int) := by unfold wrap64; omega
  have hn1 : ((m : Int)).toNat = m := by simp
  have hl0 : ¬ ((m : Int) < 0) := by omega
  have hl1 : ¬ ((cap : Int) < (m : Int)) := by omega
  go_enter Tryd.func12, Tryd.ntmps12
  go_wp2
  go_end0
  have hm := H1.out
  subst hm
  have a2 : Apart (Foot sb gm (.slice (some ⟨g, 0, none⟩) (F ++ [f]).length cap) (F ++ [f])) (w.setCell ⟨sb, 3, none⟩ (.int .i64 (wrap64 (turns + 1)))) ((w.setCell ⟨sb, 3, none⟩ (.int .i64 (wrap64 (turns + 1)))).setCell ⟨sb, 2, none⟩ (.slice (some ⟨g, 0, none⟩) F.length cap)) := apart_store _
  refine ⟨rfl, .slice (some ⟨g, 0, none⟩) F.length cap, H2.out, fun k hk => Or.inl ?_, ?_⟩
  · rcases hk with hk | hk | hk | ⟨x, hx, e⟩
    · exact Or.inl hk
    · exact Or.inr (Or.inl hk)
    · exact Or.inr (Or.inr (Or.inl hk))
    · exact Or.inr (Or.inr (Or.inr ⟨x, List.mem_append_left _ hx, e⟩))
  · exact a1.out.andThen a2 (fun _ _ h => h)

theorem Pop.calls {base : Nat} {w : World} {sb n : Nat} {G : List Vr} {F : List Fr} {turns : Int} {gm : Nat} {fv : Value} (h : StoreV base w sb n G F turns gm fv) :
    Calls Tryd.prog 12 #[.pointer (some ⟨sb, 0, none⟩)] w fun e w' => e = .returned (.tuple #[]) ∧ ∃ fv', Moved base w w' sb n G F.dropLast (wrap64 (turns + 1)) gm fv' F fv := by
  by_cases hF : F = []
  · subst hF
    refine (Pop.calls_none h).mono ?_
    rintro e w' ⟨rfl, hm⟩
    exact ⟨rfl, fv, hm⟩
  · have e := List.dropLast_concat_getLast hF
    generalize hA : F.dropLast = A at e ⊢
    generalize F.getLast hF = f at e
    subst e
    exact Pop.calls_some h
end Go.Proofs.YtjmaficiinhjpaaDoor.G
