/- the reference's store: Push walked. -/
import Derived.Test.YtjmaficiinhjpaaDoorStoRef6
namespace Go.Proofs.YtjmaficiinhjpaaDoor.G
open Go.RowKit Go.Maps Go.WideMaps Go.Sort

theorem info_vars : (Tryd.prog.info? 28).map (fun i => (i.zero, i.size, i.bytes)) = some (some (.slice none 0 0), 1, 24) := by kernel_rfl
theorem info_bool : (Tryd.prog.info? 4).map (fun i => (i.zero, i.size, i.bytes)) = some (some (.bool false), 1, 1) := by kernel_rfl
theorem src_one {w : World} {b : Nat} {v : Value} {t : TypeId} (h : w.heap[b]? = some (.cells #[v] t (0, 0))) : Src w (some ⟨b, 0, none⟩) 1 1 [v] :=
  ⟨rfl, fun _ => ⟨b, 0, rfl, lt_heap h, fun j u hu => by rw [Nat.zero_add, cell_of_block h]; simpa using hu⟩⟩
theorem keepA {w : World} {b : Nat} {o o' : Obj} (h : w.heap[b]? = some o) : (w.alloc o').heap[b]? = some o := (Below.heap_alloc _ _ _ (lt_heap h)).trans h
theorem new2 (w : World) (o o' : Obj) : ((w.alloc o).alloc o').heap[w.heap.size + 1]? = some o' := by
  have h := heap_alloc_new (w.alloc o) o'
  simpa using h
theorem keepN {w w' : World} {b : Nat} {o : Obj} {row : Option Nat} (h : w.heap[b]? = some o) (hg : w.grownBy w' row) (hne : row ≠ some b) : w'.heap[b]? = some o := (hg.block b (lt_heap h) (fun e => hne e.symm)).trans h
theorem own_grow {w W w' : World} {base sz n : Nat} {e : TypeId} {v : Value} {xs : List Value} {row : Option Nat} (h : w.ownsRow base e sz v n xs) (hW : Below w.heap.size w W) (hg : W.grownBy w' row) (hne : ∀ k, v.ownBlock = some k → row ≠ some k) : w'.ownsRow base e sz v n xs :=
  own_move h (fun k hk => (hg.block k (Nat.lt_of_lt_of_le (h.lt k hk).2 hW.size) (fun e => hne k hk e.symm)).trans (hW.block k (h.lt k hk).2))
theorem nil_none (b : Nat) : Value.ownBlock (.slice none 0 0) ≠ some b := by simp [Value.ownBlock]
theorem row_low {w : World} {base sz n b : Nat} {e : TypeId} {v : Value} {xs : List Value} (h : w.ownsRow base e sz v n xs) (hb : w.heap.size ≤ b) : v.ownBlock ≠ some b := fun e => by have := (h.lt b e).2; omega
theorem row_high {v : Value} {s b : Nat} (hat : v.ownBlock = Value.ownBlock (.slice none 0 0) ∨ v.ownBlock = some s) (hb : b < s) : v.ownBlock ≠ some b := fun e => by
  rcases hat with h | h
  · rw [h] at e; exact nil_none b e
  · rw [h] at e; have := Option.some.inj e; omega
theorem rfV_snoc (X : List Rf) (f : Rf) : rfV (X ++ [f]) = rfV X ++ [.slice f.1 f.2.2.1.length f.2.1] := by simp [rfV]
theorem rfC_snoc (X : List Rf) (f : Rf) : rfC (X ++ [f]) = rfC X ++ [.bool f.2.2.2] := by simp [rfC]
theorem rfV_one (X : List Rf) : ∀ u ∈ rfV X, u.oneCell' = true := by
  intro u hu
  obtain ⟨f, _, rfl⟩ := List.mem_map.mp hu
  rfl
theorem rfC_one (X : List Rf) : ∀ u ∈ rfC X, u.oneCell' = true := by
  intro u hu
  obtain ⟨f, _, rfl⟩ := List.mem_map.mp hu
  rfl
theorem row_block {w : World} {base sz n : Nat} {e : TypeId} {A : Option Addr} {c : Nat} {xs : List Value} (h : w.ownsRow base e sz (.slice A n c) n xs) : (0 < n → ∀ a, A = some a → base ≤ a.block ∧ a.block < w.heap.size) ∧ n ≤ c ∧ c ≤ maxLen := by
  rcases h.2 with ⟨h0, h1⟩ | ⟨g, cap, cur, he, hg, hgz, h1, h2, _⟩
  · injection h0 with _ _ h3
    exact ⟨fun hp => by omega, by omega, by unfold maxLen; omega⟩
  · injection he with h3 _ h4
    subst h3 h4
    exact ⟨fun _ a e => by obtain rfl := Option.some.inj e; exact ⟨hg, lt_heap hgz⟩, h1, h2⟩

theorem push_close {base : Nat} {w w7 : World} {rb : Nat} {B : Nat → Prop} {G : List Vr} {X : List Rf} {turns : Int} {gA fA cA : Option Addr} {gc fc cc : Nat} (h : RefV base w rb B G X turns gA fA cA gc fc cc) (hX : X.length < 1000) (hb : Below w.heap.size w w7)
    {a2 a3 a5 : Option Addr} {c2 c3 c5 : Nat} {l : List Vr} {call : Bool} (hl : l.length ≤ 1000) (h2 : w7.ownsRow w.heap.size 27 4 (.slice a2 l.length c2) l.length (varsV l))
    (h3 : w7.ownsRow w.heap.size 28 1 (.slice a3 (X.length + 1) c3) (X.length + 1) (rfV X ++ [.slice a2 l.length c2])) (h5 : w7.ownsRow w.heap.size 4 1 (.slice a5 (X.length + 1) c5) (X.length + 1) (rfC X ++ [.bool call])) :
    RMoved base w ((w7.setCell ⟨rb, 1, none⟩ (.slice a3 (X.length + 1) c3)).setCell ⟨rb, 2, none⟩ (.slice a5 (X.length + 1) c5)) rb B G (X ++ [(a2, c2, l, call)]) turns := by
  have hrz := h.hrz
  have h1 := h.later hb
  have hsz := hb.size
  have hXl : (X ++ [(a2, c2, l, call)]).length = X.length + 1 := by simp
  obtain ⟨b2, e2, _⟩ := row_block h2
  obtain ⟨b3, e3, f3⟩ := row_block h3
  obtain ⟨b5, e5, f5⟩ := row_block h5
  refine ⟨fun k => B k ∨ (w.heap.size ≤ k ∧ k < w7.heap.size), ⟨gA, a3, a5, gc, c3, c5, ?_⟩, fun k hk => hk.imp id (fun e => e.1), ((apart_below hb).mono (fun _ _ h => h.elim)).andThen ((apart_put _).andThen (apart_put _) (fun _ _ h => h)) (fun _ _ h => h)⟩
  rw [← hXl]
  refine h1.frames (X' := X ++ [(a2, c2, l, call)]) (fun k hk => Or.inl hk) ?_ (fun k hk => ?_) ?_ ?_ (fun f hf => ?_) (by rw [hXl]; exact ⟨e3, f3⟩) (by rw [hXl]; exact ⟨e5, f5⟩) (by rw [hXl]; omega)
  · rintro (hk | hk)
    · exact h.hB hk
    · omega
  · rcases hk with hk | hk
    · exact h1.hBz k hk
    · exact ⟨by have := h.hrb; omega, hk.2⟩
  · rw [hXl, rfV_snoc]
    exact ⟨Src.of_row h3, fun hp a e => Or.inr (b3 (by omega) a e)⟩
  · rw [hXl, rfC_snoc]
    exact ⟨Src.of_row h5, fun hp a e => Or.inr (b5 (by omega) a e)⟩
  · rcases List.mem_append.mp hf with hf | hf
    · exact ⟨(h1.fr f hf).1.mono (fun k hk => Or.inl hk), (h1.fr f hf).2⟩
    · obtain rfl := List.mem_singleton.mp hf
      exact ⟨⟨Src.of_row h2, fun hp a e => Or.inr (b2 hp a e)⟩, hl⟩

set_option maxHeartbeats 40000000 in
set_option maxRecDepth 100000 in
theorem RPush.calls {base : Nat} {w : World} {rb : Nat} {B : Nat → Prop} {G : List Vr} {X : List Rf} {turns : Int} {gA fA cA : Option Addr} {gc fc cc : Nat} (h : RefV base w rb B G X turns gA fA cA gc fc cc) (hX : X.length < 1000) (l : List Vr) (lA : Option Addr) (lc : Nat) (call : Bool) (hl : l.length ≤ 1000)
    (hL : Src (w.setCell ⟨rb, 3, none⟩ (.int .i64 (wrap64 (turns + 1)))) lA l.length 4 (varsV l)) :
    Calls Tryd.prog 28 #[.pointer (some ⟨rb, 0, none⟩), .slice lA l.length lc, .bool call] w fun e w' => e = .returned (.tuple #[]) ∧ ∃ a c, RMoved base w w' rb B G (X ++ [(a, c, l, call)]) (wrap64 (turns + 1)) := by
  obtain ⟨i0, hi, hz0, hz1, hz2⟩ := info_parts info_var
  obtain ⟨iv, hiv, hv0, hv1, hv2⟩ := info_parts info_vars
  obtain ⟨ib, hib, hb0, hb1, hb2⟩ := info_parts info_bool
  have c3 := h.c3
  have f3 := h.f3
  have HA := Lib.hid (apart_put (w := w) (rb := rb) (j := 3) (.int .i64 (wrap64 (turns + 1))))
  have h2 := h.counted (wrap64 (turns + 1))
  obtain ⟨wb, hwb⟩ : ∃ wb, wb = w.setCell ⟨rb, 3, none⟩ (.int .i64 (wrap64 (turns + 1))) := ⟨_, rfl⟩
  rw [← hwb] at h2 hL HA
  have HL := Lib.hid hL
  have HR := Lib.hid h2
  have RF := Lib.hid h2.rf.1
  have RC := Lib.hid h2.rc.1
  have c1 := h2.c1
  have c2 := h2.c2
  have f1 := h2.f1
  have f2 := h2.f2
  have hrz := h2.hrz
  clear h h2 hL
  go_enter Tryd.func28, Tryd.ntmps28
  go_wp2
  rw [← hwb]
  clear hwb c3 f3
  go_region_law (first
    | (refine step_append_any _ (by rfl) _ _ _ (by rfl) wb.heap.size 28 iv _ 1 24 Tryd.underlying64 hiv hv0 hv1 hv2 rfl (by omega) (.slice none 0 0) 0 [] (by rfl) (World.ownsRow_nil _ _ _ _) _ _ _ (rfV X) (by rfl) (RF.out.later (by first | exact Below.drew (Below.refl _ wb) | exact Below.drew ((Below.refl _ wb).alloc (Nat.le_refl _) _))) (rfV_one _) (by unfold maxLen; omega) (by omega) (by first | exact Nat.le_refl _ | simp) ?_; intro v1 w3 hown1 hgr1 hat1; rw [Nat.zero_add, List.nil_append] at hown1; obtain ⟨a1, k1, rfl⟩ := slice_of hown1; have B1 : Hid (Below wb.heap.size wb w3) := (by first | exact Lib.hid (below_new hgr1) | exact Lib.hid ((Below.drew (Below.refl wb.heap.size wb)).grown hgr1 (Nat.le_refl _) (fun j hj => by cases hj))); have S1 := B1.out.size; have z1 : rb < w3.heap.size := (by omega); have d1 := (B1.out.cell (p := ⟨rb, 2, none⟩) (by exact hrz)).trans c2; have R1 := Lib.hid hown1; have HG1 := Lib.hid hgr1; have HAT1 := Lib.hid hat1; clear hown1 hgr1 hat1)
    | (refine step_append_any _ (by rfl) _ _ _ (by rfl) wb.heap.size 27 i0 _ 4 48 Tryd.underlying28 hi hz0 hz1 hz2 rfl (by omega) (.slice none 0 0) 0 [] (by rfl) (World.ownsRow_nil _ _ _ _) _ _ _ (varsV l) (by rfl) (HL.out.later (by first | exact B1.out | exact B1.out.alloc S1 _)) (varsV_one _) (by unfold maxLen; omega) (by omega) (by first | exact S1 | (simp; omega)) ?_; intro v2 w4 hown2 hgr2 hat2; rw [Nat.zero_add, List.nil_append] at hown2; obtain ⟨a2, k2, rfl⟩ := slice_of hown2; have B2 : Hid (Below wb.heap.size wb w4) := (by first | exact Lib.hid (B1.out.grown hgr2 S1 (fun j hj => absurd hj (nil_none j))) | exact Lib.hid ((B1.out.alloc S1 _).grown hgr2 (by simp; omega) (fun j hj => absurd hj (nil_none j)))); have S2 := B2.out.size; have z2 : rb < w4.heap.size := (by omega); have d2 := (B2.out.cell (p := ⟨rb, 2, none⟩) (by exact hrz)).trans c2; have K1 := Lib.hid (own_grow R1.out (by first | exact Below.refl _ _ | exact (Below.refl _ _).alloc (Nat.le_refl _) _) hgr2 (fun k _ => nil_none k)); have T12 : Hid (w3.heap.size ≤ w4.heap.size) := Lib.hid (by have := hgr2.size; first | omega | (simp at this; omega)); have R2 := Lib.hid hown2; have HG2 := Lib.hid hgr2; have AT2 : Hid (∀ k, k < w3.heap.size → Value.ownBlock (.slice a2 l.length k2) ≠ some k) := Lib.hid (fun k hk => row_high hat2 (by first | omega | (simp; omega))); clear hown2 hgr2 hat2)
    | (refine step_append_any _ (by rfl) _ _ _ (by rfl) wb.heap.size 28 iv _ 1 24 Tryd.underlying64 hiv hv0 hv1 hv2 rfl (by omega) (.slice a1 X.length k1) _ _ (by rfl) (by first | exact K1.out.alloc _ | exact (K1.out.alloc _).alloc _) _ _ _ [.slice a2 l.length k2] (by rfl) (by first | exact src_one (heap_alloc_new w4 _) | exact src_one (new2 w4 _ _) | exact src_one (keepA (heap_alloc_new w4 _))) (by intro u hu; simp at hu; subst hu; rfl) (by unfold maxLen; omega) (by omega) (by first | omega | (simp; omega)) ?_; intro v3 w5 hown3 hgr3 hat3; obtain ⟨a3, k3, rfl⟩ := slice_of hown3; have B3 : Hid (Below wb.heap.size wb w5) := (by first | exact Lib.hid ((B2.out.alloc S2 _).grown hgr3 (by first | omega | (simp; omega)) (fun j hj => (K1.out.lt j hj).1)) | exact Lib.hid (((B2.out.alloc S2 _).alloc (by simp; omega) _).grown hgr3 (by first | omega | (simp; omega)) (fun j hj => (K1.out.lt j hj).1))); have S3 := B3.out.size; have z3 : rb < w5.heap.size := (by omega); have d3 := (B3.out.cell (p := ⟨rb, 2, none⟩) (by exact hrz)).trans c2; have K2 := Lib.hid (own_grow R2.out (by first | exact (Below.refl _ _).alloc (Nat.le_refl _) _ | exact ((Below.refl _ _).alloc (Nat.le_refl _) _).alloc (by simp) _) hgr3 (fun k hk hh => AT2.out k (R1.out.lt k hh).2 hk)); have T23 : Hid (w4.heap.size ≤ w5.heap.size) := Lib.hid (by have := hgr3.size; first | omega | (simp at this; omega)); have R3 := Lib.hid hown3; have HG3 := Lib.hid hgr3; clear hown3 hgr3 hat3)
    | (refine step_append_any _ (by rfl) _ _ _ (by rfl) wb.heap.size 4 ib _ 1 1 Tryd.underlying23 hib hb0 hb1 hb2 rfl (by omega) (.slice none 0 0) 0 [] (by rfl) (World.ownsRow_nil _ _ _ _) _ _ _ (rfC X) (by rfl) (RC.out.later (by first | exact B3.out | exact B3.out.alloc S3 _)) (rfC_one _) (by unfold maxLen; omega) (by omega) (by first | exact S3 | (simp; omega)) ?_; intro v4 w6 hown4 hgr4 hat4; rw [Nat.zero_add, List.nil_append] at hown4; obtain ⟨a4, k4, rfl⟩ := slice_of hown4; have B4 : Hid (Below wb.heap.size wb w6) := (by first | exact Lib.hid (B3.out.grown hgr4 S3 (fun j hj => absurd hj (nil_none j))) | exact Lib.hid ((B3.out.alloc S3 _).grown hgr4 (by simp; omega) (fun j hj => absurd hj (nil_none j)))); have S4 := B4.out.size; have z4 : rb < w6.heap.size := (by omega); have K22 := Lib.hid (own_grow K2.out (by first | exact Below.refl _ _ | exact (Below.refl _ _).alloc (Nat.le_refl _) _) hgr4 (fun k _ => nil_none k)); have K3 := Lib.hid (own_grow R3.out (by first | exact Below.refl _ _ | exact (Below.refl _ _).alloc (Nat.le_refl _) _) hgr4 (fun k _ => nil_none k)); have R4 := Lib.hid hown4; have HG4 := Lib.hid hgr4; have AT4 : Hid (∀ k, k < w5.heap.size → Value.ownBlock (.slice a4 X.length k4) ≠ some k) := Lib.hid (fun k hk => row_high hat4 (by first | omega | (simp; omega))); clear hown4 hgr4 hat4)
    | (refine step_append_any _ (by rfl) _ _ _ (by rfl) wb.heap.size 4 ib _ 1 1 Tryd.underlying23 hib hb0 hb1 hb2 rfl (by omega) (.slice a4 X.length k4) _ _ (by rfl) (by first | exact R4.out | exact R4.out.alloc _) _ _ _ [.bool call] (by rfl) (by first | exact src_one (heap_alloc_new w6 _) | exact src_one (keepN (heap_alloc_new w5 _) HG4.out (nil_none _)) | exact src_one (keepN (keepN (new2 w4 _ _) HG3.out (row_low K1.out (by simp))) HG4.out (nil_none _)) | exact src_one (keepN (keepN (keepA (heap_alloc_new w4 _)) HG3.out (row_low K1.out (by simp))) HG4.out (nil_none _)) | exact src_one (keepN (keepN (keepA (keepN (heap_alloc_new w3 _) HG2.out (nil_none _))) HG3.out (row_low R1.out (by simp))) HG4.out (nil_none _)) | exact src_one (keepN (keepN (keepA (keepN (row_new HG1.out) HG2.out (nil_none _))) HG3.out (row_high HAT1.out (by simp))) HG4.out (nil_none _))) (by intro u hu; simp at hu; subst hu; rfl) (by unfold maxLen; omega) (by omega) (by first | exact S4 | (simp; omega)) ?_; intro v5 w7 hown5 hgr5 hat5; obtain ⟨a5, k5, rfl⟩ := slice_of hown5; have B5 : Hid (Below wb.heap.size wb w7) := (by first | exact Lib.hid (B4.out.grown hgr5 S4 (fun j hj => (R4.out.lt j hj).1)) | exact Lib.hid ((B4.out.alloc S4 _).grown hgr5 (by simp; omega) (fun j hj => (R4.out.lt j hj).1))); have e1 := (B5.out.cell (p := ⟨rb, 1, none⟩) (by exact hrz)).trans c1; have e2 := (B5.out.cell (p := ⟨rb, 2, none⟩) (by exact hrz)).trans c2; have g1 := (B5.out.frozen (p := ⟨rb, 1, none⟩) (by exact hrz)).trans f1; have g2 := (B5.out.frozen (p := ⟨rb, 2, none⟩) (by exact hrz)).trans f2; have L2 := Lib.hid (own_grow K22.out (by first | exact Below.refl _ _ | exact (Below.refl _ _).alloc (Nat.le_refl _) _) hgr5 (fun k hk hh => AT4.out k (by have h9 := (R2.out.lt k hk).2; have h8 := T23.out; omega) hh)); have L3 := Lib.hid (own_grow K3.out (by first | exact Below.refl _ _ | exact (Below.refl _ _).alloc (Nat.le_refl _) _) hgr5 (fun k hk hh => AT4.out k (R3.out.lt k hk).2 hh)); have R5 := Lib.hid hown5; clear hown5 hgr5 hat5))
  all_goals
    go_wp2
    go_end0
    exact ⟨rfl, _, _, (push_close HR.out hX B5.out hl L2.out L3.out R5.out).before HA.out⟩
end Go.Proofs.YtjmaficiinhjpaaDoor.G
