/- store: Push walked. -/
import Derived.Test.YtjmaficiinhjpaaDoorStoOps3
import Derived.Deep.AppendLies
import Derived.Deep.RegionLaw
namespace Go.Proofs.YtjmaficiinhjpaaDoor.G
open Go.RowKit Go.Maps Go.Sort Go.WideMaps

theorem StoreV.pushed {base : Nat} {w w1 w2 : World} {sb n b k gg cap : Nat} {G : List Vr} {F : List Fr} {turns : Int} {gm : Nat} {fv : Value} {l : List Vr} {call : Bool} {o : Obj} (h : StoreV base w sb n G F turns gm fv) (hB : Below w.heap.size w w1)
    (hm : StrMap w1 b k (lookD l)) (hb : w.heap.size ≤ b) (hrow : w2.ownsRow base 53 2 (.slice (some ⟨gg, 0, none⟩) (F.length + 1) cap) (F.length + 1) (frV F ++ [.map (some b), .bool call])) (hgr : (w1.alloc o).grownBy w2 fv.ownBlock) (hat : fv.ownBlock = some gg ∨ gg = w1.heap.size + 1) (hl : F.length < 1000) :
    Moved base w (w2.setCell ⟨sb, 2, none⟩ (.slice (some ⟨gg, 0, none⟩) (F.length + 1) cap)) sb n G (F ++ [(b, l, call)]) turns gm (.slice (some ⟨gg, 0, none⟩) (F.length + 1) cap) F fv := by
  have hlt := hm.lt
  have hsz := h.hsz
  have hs1 := hB.size
  have hs2 := hgr.size
  have hs2' : w1.heap.size + 1 ≤ w2.heap.size := by simpa using hs2
  have hlt1 : ∀ j, fv.ownBlock = some j → j < w.heap.size := fun j e => (h.row.lt j e).2
  have hggb : ∀ j, j ≤ w1.heap.size → fv.ownBlock ≠ some j → gg ≠ j := fun j hj hne e => by
    rcases hat with h1 | h1
    · rw [e] at h1; exact hne h1
    · omega
  have hk2 : ∀ j, j < w1.heap.size → fv.ownBlock ≠ some j → w2.heap[j]? = w1.heap[j]? := fun j hj hne => (hgr.block j (by simp; omega) (fun e => hne e.symm)).trans (Below.heap_alloc _ _ _ hj)
  have hk3 : ∀ j, j ≠ sb → (w2.setCell ⟨sb, 2, none⟩ (.slice (some ⟨gg, 0, none⟩) (F.length + 1) cap)).heap[j]? = w2.heap[j]? := fun j hj => Below.heap_setCell _ _ _ _ (by exact hj)
  have hst := grownBy_store (w := w2) (p := ⟨sb, 2, none⟩) (.slice (some ⟨gg, 0, none⟩) (F.length + 1) cap)
  have hkk : ∀ j, j < w.heap.size → fv.ownBlock ≠ some j → w2.heap[j]? = w.heap[j]? := fun j hj hne => (hk2 j (by omega) hne).trans (hB.block j hj)
  have hsb := hkk sb hsz h.ne2
  have hgg : gg < w2.heap.size := by
    rcases hrow.2 with ⟨e, _⟩ | ⟨g', cap', cur, e, hb', hg', _⟩
    · cases e
    · exact (hrow.lt gg rfl).2
  have hmk : ∀ {i j : Nat} {g : ByteArray → Option (DataW Unit)}, StrMap w i j g → i ≠ sb → fv.ownBlock ≠ some i → StrMap (w2.setCell ⟨sb, 2, none⟩ (.slice (some ⟨gg, 0, none⟩) (F.length + 1) cap)) i j g := fun {i j g} hm hi hne => hm.kept ((hk3 i hi).trans (hkk i hm.lt hne))
  refine ⟨⟨?_, ?_, ?_, ?_, ?_, hmk h.mp h.ne1 h.ne3, ?_, fun f hf => ?_, h.hsb, Nat.lt_of_lt_of_le (by omega) hst.size, h.hgm, h.ne1, ?_, ?_, Nat.le_trans (Nat.le_trans h.hz (by omega)) hst.size, by simp; omega, h.rises⟩, fun j hj => ?_, ?_⟩
  · rw [World.cell?_setCell_other w2 ⟨sb, 2, none⟩ _ _ (by simp), cells_kept hsb]; exact h.c0
  · exact World.cell?_setCell_same w2 ⟨sb, 2, none⟩ _ ((cells_kept hsb).trans h.c2)
  · rw [World.cell?_setCell_other w2 ⟨sb, 2, none⟩ _ _ (by simp), cells_kept hsb]; exact h.c3
  · rw [World.frozen?_setCell, frozen_kept hsb]; exact h.f2
  · rw [World.frozen?_setCell, frozen_kept hsb]; exact h.f3
  · rw [List.length_append, frV_snoc]
    exact row_kept hrow (fun j e => hk3 j (fun e2 => hggb sb (by omega) h.ne2 (by rw [← e2]; exact Option.some.inj e)))
  · rcases List.mem_append.mp hf with hf | hf
    · obtain ⟨⟨j, hj⟩, h1, h2, h3, h4⟩ := h.fm f hf
      exact ⟨⟨j, hmk hj h2 h4⟩, h1, h2, h3, fun e => hggb f.1 (by have := hj.lt; omega) h4 (Option.some.inj e)⟩
    · obtain rfl := List.mem_singleton.mp hf
      have hne : fv.ownBlock ≠ some b := fun e => by have := hlt1 b e; omega
      have hg := h.mp.lt
      exact ⟨⟨k, hm.kept ((hk3 b (by omega)).trans (hk2 b hlt hne))⟩, Nat.le_trans h.hz hb, by show b ≠ sb; omega, by show b ≠ gm; omega, fun e => hggb b (by omega) hne (Option.some.inj e)⟩
  · exact fun e => hggb sb (by omega) h.ne2 (Option.some.inj e)
  · exact fun e => hggb gm (by have := h.mp.lt; omega) h.ne3 (Option.some.inj e)
  · rcases hj with rfl | rfl | hj | ⟨f, hf, rfl⟩
    · exact Or.inl (Or.inl rfl)
    · exact Or.inl (Or.inr (Or.inl rfl))
    · have hj' : gg = j := Option.some.inj hj
      subst hj'
      rcases hat with h1 | h1
      · exact Or.inl (Or.inr (Or.inr (Or.inl h1)))
      · exact Or.inr (by omega)
    · rcases List.mem_append.mp hf with hf | hf
      · exact Or.inl (Or.inr (Or.inr (Or.inr ⟨f, hf, rfl⟩)))
      · obtain rfl := List.mem_singleton.mp hf
        exact Or.inr hb
  · have a1 : Apart (Foot sb gm fv F) w w1 := (apart_below hB).mono (fun _ _ h => h.elim)
    have a2 : Apart (Foot sb gm fv F) w1 (w1.alloc o) := Apart.alloc _ _ _
    have a3 : Apart (Foot sb gm fv F) (w1.alloc o) w2 := (Apart.of_grown hgr).mono (fun j _ e => Or.inr (Or.inr (Or.inl e)))
    exact ((a1.andThen a2 (fun _ _ h => h)).andThen a3 (fun _ _ h => h)).andThen (apart_store (gm := gm) (fv := fv) (F := F) _) (fun _ _ h => h)

theorem Moved.before {base : Nat} {w w1 w' : World} {sb n : Nat} {G : List Vr} {F : List Fr} {turns : Int} {gm : Nat} {fv : Value} {F0 : List Fr} {fv0 : Value} (h : Moved base w1 w' sb n G F turns gm fv F0 fv0) (a : Apart (Foot sb gm fv0 F0) w w1) : Moved base w w' sb n G F turns gm fv F0 fv0 :=
  ⟨h.store, fun k hk => (h.own k hk).imp id (fun e => Nat.le_trans a.size e), a.andThen h.apart (fun _ _ h => h)⟩
set_option maxHeartbeats 8000000 in
set_option maxRecDepth 100000 in
theorem Push.calls {base : Nat} {w : World} {sb n : Nat} {G : List Vr} {F : List Fr} {turns : Int} {gm : Nat} {fv : Value} (h : StoreV base w sb n G F turns gm fv) (hF : F.length < 1000) (l : List Vr) (A : Option Addr) (c : Nat) (call : Bool)
    (hL : VarsAt (w.setCell ⟨sb, 3, none⟩ (.int .i64 (wrap64 (turns + 1)))) A l) (hl : l.length ≤ 1000000) (hn : Names l) :
    Calls Tryd.prog 10 #[.pointer (some ⟨sb, 0, none⟩), .slice A l.length c, .bool call] w fun e w' => e = .returned (.tuple #[]) ∧ ∃ b fv', Moved base w w' sb n G (F ++ [(b, l, call)]) (wrap64 (turns + 1)) gm fv' F fv := by
  obtain ⟨i0, hi, hz0, hz1, hz2⟩ := info_parts info_frame
  have c3 := h.c3
  have f3 := h.f3
  have a1 := Lib.hid (apart_store (sb := sb) (j := 3) (gm := gm) (fv := fv) (F := F) (w := w) (.int .i64 (wrap64 (turns + 1))))
  have h2 := h.counted (wrap64 (turns + 1))
  have hsw : (w.setCell ⟨sb, 3, none⟩ (.int .i64 (wrap64 (turns + 1)))).heap.size = w.heap.size := by simp [World.setCell]
  obtain ⟨w2, hw2⟩ : ∃ w2, w2 = w.setCell ⟨sb, 3, none⟩ (.int .i64 (wrap64 (turns + 1))) := ⟨_, rfl⟩
  rw [← hw2] at hL h2 hsw a1
  have HL := Lib.hid hL
  have HN := Lib.hid hn
  have c2 := h2.c2
  have f2 := h2.f2
  have hsz := h2.hsz
  have hne2 := h2.ne2
  have hlt1 : ∀ j, fv.ownBlock = some j → j < w2.heap.size := fun j e => (h2.row.lt j e).2
  have HLT := Lib.hid hlt1
  have ROW := Lib.hid h2.row
  have hz := h2.hz
  have H2 := Lib.hid h2
  have HSW := Lib.hid hsw
  clear h hL hn h2 hsw hlt1
  go_enter Tryd.func10, Tryd.ntmps10
  go_wp2
  rw [← hw2]
  clear hw2 c3 f3
  go_region_law (first
    | (go_simp; go_at_call 23; refine (made_calls l A c call _ (HL.out.below (Below.drew (Below.refl _ w2))) hl HN.out).mono ?_; rintro e w1 ⟨b, rfl, hm1, hb1, hB1⟩; have hB' : Below w2.heap.size w2 w1 := (Below.drew (Below.refl _ w2)).trans hB1; have d2 := (hB'.cell (p := ⟨sb, 2, none⟩) (by exact hsz)).trans c2; have g2 := (hB'.frozen (p := ⟨sb, 2, none⟩) (by exact hsz)).trans f2; have R1 := Lib.hid (row_kept ROW.out (fun j e => hB'.block j (HLT.out j e))); have B1 := Lib.hid hB'; have S1 := hB'.size; have S3 : sb < w1.heap.size := (by omega); have M1 := Lib.hid hm1; have b1 : w2.heap.size ≤ b := hb1; clear hm1 hb1 hB1 hB')
    | (refine step_append_lies _ (by rfl) _ _ _ (by rfl) base 53 i0 _ 2 16 Tryd.underlying55 hi hz0 hz1 hz2 rfl (by omega) fv _ _ (by rfl) (R1.out.alloc _) ⟨w1.heap.size, 0, none⟩ 1 1 [.map (some b), .bool call] (by rfl) (by rfl) (World.news_of_block (cs := #[.map (some b), .bool call]) (t := 53) (fr := (0, 0)) (heap_alloc_new w1 _)) (by intro u hu; simp only [List.mem_cons, List.not_mem_nil, or_false] at hu; rcases hu with rfl | rfl <;> rfl) (by omega) (by unfold maxLen; omega) (by omega) (by simp; omega) (w1.heap.size + 1) (by simp) ?_; intro gg cap w3 hown1 hgrow hat hlt2; have hf2 := (hgrow.block sb (by simp; omega) (fun e => hne2 e.symm)).trans (Below.heap_alloc w1 _ sb (by omega)); have d3 := (World.cell?_of_block (a := ⟨sb, 2, none⟩) hf2).trans d2; have g3 := (World.frozen?_of_block (a := ⟨sb, 2, none⟩) hf2).trans g2; have O2 := Lib.hid hown1; have HG := Lib.hid hgrow; have HAT := Lib.hid hat; clear hown1 hgrow hat hf2))
  all_goals
    go_wp2
    go_end0
    exact ⟨rfl, b, _, (H2.out.pushed B1.out M1.out b1 O2.out HG.out HAT.out hF).before a1.out⟩
end Go.Proofs.YtjmaficiinhjpaaDoor.G
