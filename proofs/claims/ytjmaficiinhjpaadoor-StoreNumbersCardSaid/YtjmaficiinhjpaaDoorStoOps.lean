/- store: what stands behind a store; New, Turns, Set, Drop, Pop walked. -/
import Derived.Test.YtjmaficiinhjpaaDoorStoMade
import Derived.Deep.AppendLies
import Derived.Deep.RegionLaw
namespace Go.Proofs.YtjmaficiinhjpaaDoor.G
open Go.RowKit Go.Maps Go.Sort Go.WideMaps

/-! ### the ground: a list that rises by names -/
abbrev ltN (a b : ByteArray) : Prop := a.toList < b.toList
theorem eq_toList {a b : ByteArray} (h : a.toList = b.toList) : a = b := by
  rw [Lib.toList_data, Lib.toList_data] at h
  exact ByteArray.ext (Array.toList_inj.mp h)
theorem ltN_irrefl (a : ByteArray) : ¬ ltN a a := List.lt_irrefl _
theorem ltN_trans {a b c : ByteArray} (h : ltN a b) (k : ltN b c) : ltN a c := List.lt_trans h k
theorem ltN_tri (a b : ByteArray) : ltN a b ∨ a = b ∨ ltN b a := by
  by_cases h1 : a.toList < b.toList
  · exact Or.inl h1
  · by_cases h2 : b.toList < a.toList
    · exact Or.inr (Or.inr h2)
    · exact Or.inr (Or.inl (eq_toList (List.le_antisymm (List.not_lt.mp h2) (List.not_lt.mp h1))))
def RisesV (l : List Vr) : Prop := l.Pairwise (fun a b => ltN a.name b.name)
open Classical in
noncomputable def setG : List Vr → Vr → List Vr
  | [], v => [v]
  | u :: l, v => if u.name = v.name then v :: l else if ltN u.name v.name then u :: setG l v else v :: u :: l
theorem mem_setG (l : List Vr) (v x : Vr) (h : x ∈ setG l v) : x = v ∨ x ∈ l := by
  induction l with
  | nil => exact Or.inl (by simpa [setG] using h)
  | cons u l ih =>
    rw [setG] at h
    split at h
    · rcases List.mem_cons.mp h with h | h
      · exact Or.inl h
      · exact Or.inr (List.mem_cons_of_mem _ h)
    · split at h
      · rcases List.mem_cons.mp h with h | h
        · exact Or.inr (by rw [h]; simp)
        · rcases ih h with h | h
          · exact Or.inl h
          · exact Or.inr (List.mem_cons_of_mem _ h)
      · rcases List.mem_cons.mp h with h | h
        · exact Or.inl h
        · exact Or.inr h
theorem setG_rises {l : List Vr} (h : RisesV l) (v : Vr) : RisesV (setG l v) := by
  induction l with
  | nil => exact List.pairwise_singleton _ _
  | cons u l ih =>
    obtain ⟨h1, h2⟩ := List.pairwise_cons.mp h
    rw [setG]
    split
    · rename_i he
      exact List.pairwise_cons.mpr ⟨fun x hx => by rw [← he]; exact h1 x hx, h2⟩
    · rename_i hne
      split
      · rename_i hlt
        refine List.pairwise_cons.mpr ⟨fun x hx => ?_, ih h2⟩
        rcases mem_setG l v x hx with rfl | hx
        · exact hlt
        · exact h1 x hx
      · rename_i hnl
        have hvu : ltN v.name u.name := by
          rcases ltN_tri u.name v.name with hh | hh | hh
          · exact absurd hh hnl
          · exact absurd hh hne
          · exact hh
        refine List.pairwise_cons.mpr ⟨fun x hx => ?_, h⟩
        rcases List.mem_cons.mp hx with rfl | hx
        · exact hvu
        · exact ltN_trans hvu (h1 x hx)
theorem look_lt {l : List Vr} {x : ByteArray} (h : ∀ v ∈ l, ltN x v.name) : lookL l x = none :=
  look_none (fun v hv e => ltN_irrefl x (by have := h v hv; rwa [e] at this))
theorem look_setG {l : List Vr} (h : RisesV l) (v : Vr) (y : ByteArray) : lookL (setG l v) y = if y = v.name then some v else lookL l y := by
  induction l with
  | nil =>
    by_cases hy : v.name = y
    · simp [setG, lookL, hy]
    · simp [setG, lookL, hy, Ne.symm hy]
  | cons u l ih =>
    obtain ⟨h1, h2⟩ := List.pairwise_cons.mp h
    rw [setG]
    split
    · rename_i he
      have hl : lookL l v.name = none := look_lt (fun z hz => by rw [← he]; exact h1 z hz)
      by_cases hy : y = v.name
      · subst hy
        rw [lookL, hl, if_pos rfl, if_pos rfl]
      · rw [if_neg hy, lookL, lookL]
        have e1 : ¬ v.name = y := fun e => hy e.symm
        have e2 : ¬ u.name = y := fun e => hy (e.symm.trans he)
        rw [if_neg e1, if_neg e2]
    · rename_i hne
      split
      · rename_i hlt
        rw [lookL, ih h2, lookL]
        by_cases hy : y = v.name
        · rw [if_pos hy, if_pos hy]
        · rw [if_neg hy, if_neg hy]
      · rename_i hnl
        have hvu : ltN v.name u.name := by
          rcases ltN_tri u.name v.name with hh | hh | hh
          · exact absurd hh hnl
          · exact absurd hh hne
          · exact hh
        have hl : lookL (u :: l) v.name = none := look_lt (fun z hz => by
          rcases List.mem_cons.mp hz with rfl | hz
          · exact hvu
          · exact ltN_trans hvu (h1 z hz))
        by_cases hy : y = v.name
        · subst hy
          rw [lookL, hl, if_pos rfl]
        · rw [if_neg hy, lookL]
          have e1 : ¬ v.name = y := fun e => hy e.symm
          rw [if_neg e1]
          cases lookL (u :: l) y <;> rfl
theorem lookD_setG {l : List Vr} (h : RisesV l) (v : Vr) : lookD (setG l v) = fun y => if y = v.name then some v.datum else lookD l y := by
  funext y
  unfold lookD
  rw [look_setG h]
  by_cases hy : y = v.name <;> simp [hy]
def dropG (l : List Vr) (x : ByteArray) : List Vr := l.filter (fun v => decide (v.name ≠ x))
theorem look_dropG (l : List Vr) (x y : ByteArray) : lookL (dropG l x) y = if y = x then none else lookL l y := by
  induction l with
  | nil => simp [dropG, lookL]
  | cons u l ih =>
    unfold dropG at ih ⊢
    by_cases hu : u.name = x
    · rw [List.filter_cons_of_neg (by simp [hu]), ih]
      by_cases hy : y = x
      · rw [if_pos hy, if_pos hy]
      · rw [if_neg hy, if_neg hy, lookL, if_neg (fun e => hy (e.symm.trans hu))]
        cases lookL l y <;> rfl
    · rw [List.filter_cons_of_pos (by simp [hu]), lookL, ih, lookL]
      by_cases hy : y = x
      · rw [if_pos hy, if_pos hy]
        simp only
        rw [if_neg (fun e => hu (e.trans hy))]
      · rw [if_neg hy, if_neg hy]
theorem lookD_dropG (l : List Vr) (x : ByteArray) : lookD (dropG l x) = fun y => if y = x then none else lookD l y := by
  funext y
  unfold lookD
  rw [look_dropG]
  by_cases hy : y = x <;> simp [hy]
theorem dropG_rises {l : List Vr} (h : RisesV l) (x : ByteArray) : RisesV (dropG l x) := h.filter _
noncomputable def foldG (l : List Vr) : List Vr := l.foldl setG []
theorem foldG_snoc (l : List Vr) (v : Vr) : foldG (l ++ [v]) = setG (foldG l) v := by unfold foldG; rw [List.foldl_append]; rfl
theorem foldG_is (l : List Vr) : RisesV (foldG l) ∧ ∀ y, lookL (foldG l) y = lookL l y := by
  generalize hn : l.length = n
  induction n generalizing l with
  | zero =>
    obtain rfl := List.length_eq_zero_iff.mp hn
    exact ⟨List.Pairwise.nil, fun y => rfl⟩
  | succ n ih =>
    obtain ⟨a, v, rfl⟩ : ∃ a v, l = a ++ [v] := ⟨l.dropLast, l.getLast (by intro h; rw [h] at hn; simp at hn), (List.dropLast_concat_getLast _).symm⟩
    obtain ⟨h1, h2⟩ := ih a (by simp at hn; omega)
    rw [foldG_snoc]
    refine ⟨setG_rises h1 v, fun y => ?_⟩
    rw [look_setG h1, look_snoc, h2]

/-! ### the store in memory -/
/-- A frame: its map's block, its variables, whether it is a call's. -/
abbrev Fr := Nat × List Vr × Bool
def frV (F : List Fr) : List Value := F.flatMap (fun f => [.map (some f.1), .bool f.2.2])
theorem frV_snoc (F : List Fr) (f : Fr) : frV (F ++ [f]) = frV F ++ [.map (some f.1), .bool f.2.2] := by simp [frV]
theorem frV_len (F : List Fr) : (frV F).length = F.length * 2 := by
  induction F with
  | nil => rfl
  | cons f F ih =>
    show ([Value.map (some f.1), Value.bool f.2.2] ++ frV F).length = _
    rw [List.length_append, ih]; simp; omega
theorem frV_at : ∀ (F : List Fr) (j : Nat) (f : Fr), F[j]? = some f → (frV F)[j * 2]? = some (.map (some f.1)) ∧ (frV F)[j * 2 + 1]? = some (.bool f.2.2)
  | [], j, f, h => by simp at h
  | g :: F, 0, f, h => by
    have : g = f := by simpa using h
    subst this
    exact ⟨rfl, rfl⟩
  | g :: F, j + 1, f, h => by
    obtain ⟨h1, h2⟩ := frV_at F j f (by simpa using h)
    have e : frV (g :: F) = [Value.map (some g.1), Value.bool g.2.2] ++ frV F := rfl
    rw [e]
    constructor
    · rw [List.getElem?_append_right (by simp; omega), ← h1]; congr 1; simp; omega
    · rw [List.getElem?_append_right (by simp; omega), ← h2]; congr 1; simp; omega
theorem info_frame : (Tryd.prog.info? 53).map (fun i => (i.zero, i.size, i.bytes)) = some (some (.agg #[.map none, .bool false]), 2, 16) := by kernel_rfl

structure StoreV (base : Nat) (w : World) (sb n : Nat) (G : List Vr) (F : List Fr) (turns : Int) (gm : Nat) (fv : Value) : Prop where
  c0 : w.cell? ⟨sb, 0, none⟩ = some (.map (some gm))
  c2 : w.cell? ⟨sb, 2, none⟩ = some fv
  c3 : w.cell? ⟨sb, 3, none⟩ = some (.int .i64 turns)
  f2 : w.frozen? ⟨sb, 2, none⟩ = false
  f3 : w.frozen? ⟨sb, 3, none⟩ = false
  mp : StrMap w gm n (lookD G)
  row : w.ownsRow base 53 2 fv F.length (frV F)
  fm : ∀ f ∈ F, (∃ k, StrMap w f.1 k (lookD f.2.1)) ∧ base ≤ f.1 ∧ f.1 ≠ sb ∧ f.1 ≠ gm ∧ fv.ownBlock ≠ some f.1
  hsb : base ≤ sb
  hsz : sb < w.heap.size
  hgm : base ≤ gm
  ne1 : gm ≠ sb
  ne2 : fv.ownBlock ≠ some sb
  ne3 : fv.ownBlock ≠ some gm
  hz : base ≤ w.heap.size
  len : F.length ≤ 1000
  rises : RisesV G

/-- A store's own blocks. -/
def Foot (sb gm : Nat) (fv : Value) (F : List Fr) (k : Nat) : Prop := k = sb ∨ k = gm ∨ fv.ownBlock = some k ∨ ∃ f ∈ F, f.1 = k
theorem StoreV.footz {base : Nat} {w : World} {sb n : Nat} {G : List Vr} {F : List Fr} {turns : Int} {gm : Nat} {fv : Value} (h : StoreV base w sb n G F turns gm fv) (k : Nat) (hk : Foot sb gm fv F k) : base ≤ k ∧ k < w.heap.size := by
  rcases hk with rfl | rfl | hk | ⟨f, hf, rfl⟩
  · exact ⟨h.hsb, h.hsz⟩
  · exact ⟨h.hgm, h.mp.lt⟩
  · exact h.row.lt k hk
  · obtain ⟨⟨k, hm⟩, hb, _⟩ := h.fm f hf
    exact ⟨hb, hm.lt⟩
theorem cells_kept {w w' : World} {cb j : Nat} (h : w'.heap[cb]? = w.heap[cb]?) : w'.cell? ⟨cb, j, none⟩ = w.cell? ⟨cb, j, none⟩ := World.cell?_of_block (a := ⟨cb, j, none⟩) h
theorem frozen_kept {w w' : World} {cb j : Nat} (h : w'.heap[cb]? = w.heap[cb]?) : w'.frozen? ⟨cb, j, none⟩ = w.frozen? ⟨cb, j, none⟩ := World.frozen?_of_block (a := ⟨cb, j, none⟩) h
theorem row_kept {w w' : World} {base e size n : Nat} {v : Value} {xs : List Value} (h : w.ownsRow base e size v n xs) (hk : ∀ k, v.ownBlock = some k → w'.heap[k]? = w.heap[k]?) : w'.ownsRow base e size v n xs := by
  rcases h with ⟨h1, h2 | ⟨g, cap, cur, rfl, hb, hg, h3⟩⟩
  · exact ⟨h1, Or.inl h2⟩
  · exact ⟨h1, Or.inr ⟨g, cap, cur, rfl, hb, (hk g rfl).trans hg, h3⟩⟩
theorem StoreV.kept {base : Nat} {w w' : World} {sb n : Nat} {G : List Vr} {F : List Fr} {turns : Int} {gm : Nat} {fv : Value} (h : StoreV base w sb n G F turns gm fv) {P : Nat → Prop} (hA : Apart P w w') (hF : ∀ k, P k → ¬ Foot sb gm fv F k) : StoreV base w' sb n G F turns gm fv := by
  have hk : ∀ k, Foot sb gm fv F k → w'.heap[k]? = w.heap[k]? := fun k hk => hA.block k (h.footz k hk).2 (fun hh => hF k hh hk)
  have hs := hk sb (Or.inl rfl)
  exact ⟨(cells_kept hs).trans h.c0, (cells_kept hs).trans h.c2, (cells_kept hs).trans h.c3, (frozen_kept hs).trans h.f2, (frozen_kept hs).trans h.f3, h.mp.kept (hk gm (Or.inr (Or.inl rfl))),
    row_kept h.row (fun k e => hk k (Or.inr (Or.inr (Or.inl e)))), fun f hf => ⟨(h.fm f hf).1.elim fun k hm => ⟨k, hm.kept (hk f.1 (Or.inr (Or.inr (Or.inr ⟨f, hf, rfl⟩))))⟩, (h.fm f hf).2⟩,
    h.hsb, Nat.lt_of_lt_of_le h.hsz hA.size, h.hgm, h.ne1, h.ne2, h.ne3, Nat.le_trans h.hz hA.size, h.len, h.rises⟩
theorem apart_below {w w' : World} (hb : Below w.heap.size w w') : Apart (fun _ => False) w w' := ⟨hb.os, hb.tape, hb.output, hb.size, fun k hk _ => hb.block k hk⟩
theorem StoreV.later {base : Nat} {w w' : World} {sb n : Nat} {G : List Vr} {F : List Fr} {turns : Int} {gm : Nat} {fv : Value} (h : StoreV base w sb n G F turns gm fv) (hb : Below w.heap.size w w') : StoreV base w' sb n G F turns gm fv :=
  h.kept (apart_below hb) (fun _ h => h.elim)

/-- Behind a call on a store. -/
structure Moved (base : Nat) (w w' : World) (sb n : Nat) (G : List Vr) (F : List Fr) (turns : Int) (gm : Nat) (fv : Value) (F0 : List Fr) (fv0 : Value) : Prop where
  store : StoreV base w' sb n G F turns gm fv
  own : ∀ k, Foot sb gm fv F k → Foot sb gm fv0 F0 k ∨ w.heap.size ≤ k
  apart : Apart (Foot sb gm fv0 F0) w w'

theorem Turns.calls {base : Nat} {w : World} {sb n : Nat} {G : List Vr} {F : List Fr} {turns : Int} {gm : Nat} {fv : Value} (h : StoreV base w sb n G F turns gm fv) :
    Calls Tryd.prog 13 #[.pointer (some ⟨sb, 0, none⟩)] w fun e w' => e = .returned (.int .i64 turns) ∧ w' = w := by
  have c3 := h.c3
  clear h
  go_enter Tryd.func13, Tryd.ntmps13
  go_wp2
  go_ret
  exact ⟨rfl, rfl⟩

set_option maxHeartbeats 1000000 in
theorem New.calls (l : List Vr) (A : Option Addr) (c : Nat) (w : World) (hL : VarsAt w A l) (hl : l.length ≤ 1000000) (hn : Names l) :
    Calls Tryd.prog 7 #[.slice A l.length c] w fun e w' => ∃ sb gm, e = .returned (.pointer (some ⟨sb, 0, none⟩)) ∧ StoreV w.heap.size w' sb l.length (foldG l) [] 0 gm (.slice none 0 0) ∧ Below w.heap.size w w' := by
  have HM := Lib.hid (made_calls l A c false w hL hl hn)
  clear hL hn
  go_enter Tryd.func7, Tryd.ntmps7
  go_wp2_with (go_at_call 23; refine HM.out.mono ?_; rintro e w1 ⟨b, rfl, hm, hb, hB⟩; have M1 := Lib.hid hm; have B1 := Lib.hid hB; clear hm hB)
  go_ret
  have hz := B1.out.size
  have hblk := heap_alloc_new w1 (Obj.cells #[Value.map (some b), Value.bool false, Value.slice none 0 0, Value.int .i64 0] 59)
  have hf : lookD (foldG l) = lookD l := by funext y; unfold lookD; rw [(foldG_is l).2 y]
  refine ⟨w1.heap.size, b, rfl, ⟨?_, ?_, ?_, frozen_of_block hblk, frozen_of_block hblk, by rw [hf]; exact M1.out.kept (Below.heap_alloc _ _ _ M1.out.lt), World.ownsRow_nil _ _ _ _, fun f hf => absurd hf (by simp), hz, by simp, hb, by have := M1.out.lt; omega, by simp [Value.ownBlock], by simp [Value.ownBlock], by simp; omega, by simp, (foldG_is l).1⟩, B1.out.alloc hz _⟩
  · rw [cell_of_block hblk]; rfl
  · rw [cell_of_block hblk]; rfl
  · rw [cell_of_block hblk]; rfl
end Go.Proofs.YtjmaficiinhjpaaDoor.G
