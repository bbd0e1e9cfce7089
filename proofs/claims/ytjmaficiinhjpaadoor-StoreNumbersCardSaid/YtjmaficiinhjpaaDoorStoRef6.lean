/- the reference's store: Set walked. -/
import Derived.Test.YtjmaficiinhjpaaDoorStoRef5
namespace Go.Proofs.YtjmaficiinhjpaaDoor.G
open Go.RowKit Go.Maps Go.WideMaps Go.Sort

theorem own_move {w w' : World} {base sz n : Nat} {e : TypeId} {v : Value} {xs : List Value} (h : w.ownsRow base e sz v n xs) (hk : ∀ k : Nat, v.ownBlock = some k → w'.heap[k]? = w.heap[k]?) : w'.ownsRow base e sz v n xs := row_kept h hk
theorem Ahead.step {G : List Vr} {x : ByteArray} {k : Nat} {u : Vr} (h : Ahead G x k) (hu : G[k]? = some u) (hl : ltN u.name x) : Ahead G x (k + 1) := by
  intro j w hj hw
  by_cases e : j = k
  · subst e
    rw [hu] at hw
    obtain rfl := Option.some.inj hw
    exact hl
  · exact h j w (by omega) hw
theorem mem_of_block {w : World} {b : Nat} {v : Vr} {t : TypeId} (h : w.heap[b]? = some (.cells v.cells.toArray t (0, 0))) : ∀ j u, (v.cells)[j]? = some u → w.cell? ⟨b, 0 + j, none⟩ = some u := fun j u hu => by
  rw [Nat.zero_add, cell_of_block h]
  simpa using hu
theorem src_block {w : World} {b : Nat} {v : Vr} {t : TypeId} (h : w.heap[b]? = some (.cells v.cells.toArray t (0, 0))) : Src w (some ⟨b, 0, none⟩) 1 4 v.cells :=
  ⟨rfl, fun _ => ⟨b, 0, rfl, lt_heap h, mem_of_block h⟩⟩

/-- The world ahead of the loop: the row m, the box. -/
structure SetW (base : Nat) (w0 w : World) (rb nb : Nat) (B : Nat → Prop) (G : List Vr) (X : List Rf) (turns : Int) (gA fA cA : Option Addr) (gc fc cc : Nat) (Am : Option Addr) (cm : Nat) (v : Vr) : Prop where
  ref : RefV base w0 rb B G X turns gA fA cA gc fc cc
  below : Below w0.heap.size w0 w
  row : w.ownsRow w0.heap.size 27 4 (.slice Am G.length cm) G.length (varsV G)
  box : w0.heap[nb]? = some (.cells v.cells.toArray 27 (0, 0))
  ne : nb ≠ rb
theorem SetW.drewN {base : Nat} {w0 w : World} {rb nb : Nat} {B : Nat → Prop} {G : List Vr} {X : List Rf} {turns : Int} {gA fA cA : Option Addr} {gc fc cc : Nat} {Am : Option Addr} {cm : Nat} {v : Vr} (h : SetW base w0 w rb nb B G X turns gA fA cA gc fc cc Am cm v) (q : Nat) : SetW base w0 (w.drewN q) rb nb B G X turns gA fA cA gc fc cc Am cm v :=
  ⟨h.ref, h.below.trans ⟨rfl, rfl, rfl, Nat.le_refl _, fun _ _ => rfl⟩, own_move h.row (fun _ _ => rfl), h.box, h.ne⟩
theorem SetW.facts {base : Nat} {w0 w : World} {rb nb : Nat} {B : Nat → Prop} {G : List Vr} {X : List Rf} {turns : Int} {gA fA cA : Option Addr} {gc fc cc : Nat} {Am : Option Addr} {cm : Nat} {v : Vr} (h : SetW base w0 w rb nb B G X turns gA fA cA gc fc cc Am cm v) :
    w.heap[nb]? = some (.cells v.cells.toArray 27 (0, 0)) ∧ w.cell? ⟨nb, 0, none⟩ = some (.string v.name) ∧ w.cell? ⟨nb, 1, none⟩ = some (.string v.val) ∧ w.cell? ⟨nb, 2, none⟩ = some (.int .i64 v.fl) ∧ w.cell? ⟨nb, 3, none⟩ = some (.int .i64 v.og) ∧
    (∃ x, w.cell? ⟨rb, 0, none⟩ = some (.slice gA G.length x)) ∧ w.frozen? ⟨rb, 0, none⟩ = false := by
  have hb := (h.below.block nb (lt_heap h.box)).trans h.box
  have hr := h.ref.later h.below
  exact ⟨hb, cell_of_block (j := 0) hb, cell_of_block (j := 1) hb, cell_of_block (j := 2) hb, cell_of_block (j := 3) hb, ⟨_, hr.c0⟩, hr.f0⟩
theorem SetW.close {base : Nat} {w0 w w' : World} {rb nb : Nat} {B : Nat → Prop} {G G' : List Vr} {X : List Rf} {turns : Int} {gA fA cA : Option Addr} {gc fc cc : Nat} {Am : Option Addr} {cm : Nat} {v : Vr} (h : SetW base w0 w rb nb B G X turns gA fA cA gc fc cc Am cm v) (hb : Below w0.heap.size w w') {u : Value} {n : Nat}
    (hrow : w'.ownsRow w0.heap.size 27 4 u n (varsV G')) (hl : G'.length ≤ 1000) : RMoved base w0 (w'.setCell ⟨rb, 0, none⟩ u) rb B G' X turns := ground_close h.ref (h.below.trans hb) hrow hl
theorem setG_len (l : List Vr) (v : Vr) : (setG l v).length ≤ l.length + 1 := by
  induction l with
  | nil => simp [setG]
  | cons u l ih =>
    rw [setG]
    split
    · simp
    · split
      · simp; omega
      · simp

theorem row_base {w : World} {base base' sz n : Nat} {e : TypeId} {v : Value} {xs : List Value} (h : w.ownsRow base' e sz v n xs) (hb : base ≤ base') : w.ownsRow base e sz v n xs := by
  rcases h with ⟨h1, h2 | ⟨g, cap, cur, rfl, hb', h3⟩⟩
  · exact ⟨h1, Or.inl h2⟩
  · exact ⟨h1, Or.inr ⟨g, cap, cur, rfl, Nat.le_trans hb hb', h3⟩⟩
theorem varsV_cells (v : Vr) : varsV [v] = v.cells := by simp [varsV]
theorem row_new {w w3 : World} {o : Obj} {row : Option Nat} (h : (w.alloc o).drew.grownBy w3 row) (hr : row = none := by rfl) : w3.heap[w.heap.size]? = some o := by
  subst hr
  rw [h.block w.heap.size (by simp) (by simp)]
  exact heap_alloc_new w o
theorem below_new {w w3 : World} {o : Obj} {row : Option Nat} (h : (w.alloc o).drew.grownBy w3 row) (hr : row = none := by rfl) : Below w.heap.size w w3 := by
  subst hr
  exact (Below.drew ((Below.refl w.heap.size w).alloc (Nat.le_refl _) _)).grown h (by simp) (fun j hj => by cases hj)
set_option maxHeartbeats 8000000 in
set_option maxRecDepth 100000 in
theorem RSet.calls {base : Nat} {w : World} {rb : Nat} {B : Nat → Prop} {G : List Vr} {X : List Rf} {turns : Int} {gA fA cA : Option Addr} {gc fc cc : Nat} (h : RefV base w rb B G X turns gA fA cA gc fc cc) (hG : RisesV G) (hln : G.length < 1000) (v : Vr) :
    Calls Tryd.prog 26 #[.pointer (some ⟨rb, 0, none⟩), .agg #[.string v.name, .string v.val, .int .i64 v.fl, .int .i64 v.og]] w fun e w' => e = .returned (.tuple #[]) ∧ RMoved base w w' rb B (setG G v) X (wrap64 (turns + 1)) := by
  obtain ⟨i0, hi, hz0, hz1, hz2⟩ := info_parts info_var
  have hrz := h.hrz
  have h' := h.later ((Below.refl _ w).alloc (Nat.le_refl _) (.cells #[.string v.name, .string v.val, .int .i64 v.fl, .int .i64 v.og] 27))
  have h2 := (h.counted (wrap64 (turns + 1))).later ((Below.refl _ _).alloc (Nat.le_refl _) (.cells #[.string v.name, .string v.val, .int .i64 v.fl, .int .i64 v.og] 27))
  have c3 := h'.c3
  have f3 := h'.f3
  have c0 := h2.c0
  have HS := Lib.hid h2.rg.1
  have a1 : Apart (fun k => k = rb) w ((w.setCell ⟨rb, 3, none⟩ (.int .i64 (wrap64 (turns + 1)))).alloc (.cells #[.string v.name, .string v.val, .int .i64 v.fl, .int .i64 v.og] 27)) := (apart_put _).andThen (Apart.alloc _ _ _) (fun _ _ h => h)
  have hbx : ((w.setCell ⟨rb, 3, none⟩ (.int .i64 (wrap64 (turns + 1)))).alloc (.cells #[.string v.name, .string v.val, .int .i64 v.fl, .int .i64 v.og] 27)).heap[w.heap.size]? = some (.cells v.cells.toArray 27 (0, 0)) := by
    have := heap_alloc_new (w.setCell ⟨rb, 3, none⟩ (.int .i64 (wrap64 (turns + 1)))) (.cells #[.string v.name, .string v.val, .int .i64 v.fl, .int .i64 v.og] 27)
    simpa [World.setCell, Vr.cells] using this
  obtain ⟨w1, hw1⟩ : ∃ w1, w1 = (w.setCell ⟨rb, 3, none⟩ (.int .i64 (wrap64 (turns + 1)))).alloc (.cells #[.string v.name, .string v.val, .int .i64 v.fl, .int .i64 v.og] 27) := ⟨_, rfl⟩
  have HW1 := Lib.hid hw1
  rw [← hw1] at h2 a1 hbx
  have HR := Lib.hid h2
  have HA := Lib.hid a1
  have HBX := Lib.hid hbx
  have HG := Lib.hid hG
  have HGL := Lib.hid (setG_len G v)
  clear h h' h2 hw1 a1 hbx hG
  go_enter Tryd.func26, Tryd.ntmps26
  go_wp2_with (at_builtin; go_loud (refine wpList_append_any _ rfl _ _ 28 rfl w1.heap.size 27 i0 _ 4 48 Tryd.underlying28 hi hz0 hz1 hz2 rfl (by decide) (.slice none 0 0) 0 [] rfl (World.ownsRow_nil _ _ _ _) _ _ _ (varsV G) rfl HS.out (varsV_one _) (by unfold maxLen; omega) (by omega) (by rw [HW1.out]; exact Nat.le_refl _) ?_; intro v1 w2 hown1 hgr1 hat1; rw [Nat.zero_add, List.nil_append] at hown1; obtain ⟨Am, cm, rfl⟩ := slice_of hown1; rw [← HW1.out] at hgr1; have HSW : Hid (SetW base w1 w2 rb w.heap.size B G X (wrap64 (turns + 1)) gA fA cA gc fc cc Am cm v) := Lib.hid ⟨HR.out, (Below.refl _ _).grown hgr1 (Nat.le_refl _) (fun j hj => by cases hj), hown1, HBX.out, by omega⟩; clear hown1 hgr1 hat1))
  clear c3 f3 c0 HS HR HW1
  obtain ⟨wo, hwo⟩ : ∃ wo : World, wo = w2 := ⟨_, rfl⟩
  rw [← hwo] at HSW ⊢
  clear hwo w2
  go_loopw [5] (fun i wi => ∃ (k q : Nat), k ≤ G.length ∧ i = .int .i64 k ∧ Hid (Ahead G v.name k) ∧ wi = wo.drewN q) (fun i _ => G.length - (intOf i).toNat)
  case atStart => exact ⟨0, 0, Nat.zero_le _, rfl, Lib.hid (fun j u hj => absurd hj (by omega)), rfl⟩
  case round =>
    obtain ⟨k, q, hk, rfl, HK, rfl⟩ := hrel
    obtain ⟨wz, hwz⟩ : ∃ wz : World, wz = wo.drewN q := ⟨_, rfl⟩
    rw [← hwz]
    have HWZ := Lib.hid hwz
    have hS := HSW.out.drewN q
    rw [← hwz] at hS
    have HSZ := Lib.hid hS
    obtain ⟨hbl, b0, b1, b2, b3, ⟨gx, d0⟩, g0⟩ := hS.facts
    have HBL := Lib.hid hbl
    clear hwz hS hbl
    have j0 : (0 : Int) ≤ (k : Int) := Int.natCast_nonneg _
    by_cases hlt : k < G.length
    · obtain ⟨u, hu⟩ : ∃ u, G[k]? = some u := ⟨_, List.getElem?_eq_getElem hlt⟩
      have j1 : (k : Int) < (G.length : Int) := by omega
      obtain ⟨mb, rfl, hmz, hmc⟩ : ∃ mb, Am = some ⟨mb, 0, none⟩ ∧ mb < wz.heap.size ∧ ∀ j v, G[j]? = some v → wz.cell? ⟨mb, j * 4, none⟩ = some (.string v.name) ∧ wz.cell? ⟨mb, j * 4 + 1, none⟩ = some (.string v.val) ∧ wz.cell? ⟨mb, j * 4 + 2, none⟩ = some (.int .i64 v.fl) ∧ wz.cell? ⟨mb, j * 4 + 3, none⟩ = some (.int .i64 v.og) := by
        obtain ⟨mb, off, rfl, h1, h2⟩ := src_vars (Src.of_row HSZ.out.row) (by omega)
        rcases HSZ.out.row.2 with ⟨h0, _⟩ | ⟨g, cap, cur, he, hg, _⟩
        · cases h0
        · injection he with h3 _ _
          injection h3 with h3
          injection h3 with h3 h4 _
          subst h4
          exact ⟨mb, rfl, h1, fun j v hj => by have := h2 j v hj; simpa using this⟩
      obtain ⟨m0, m1, m2, m3⟩ := hmc k u hu
      have HU := Lib.hid hu
      clear hu hmc
      by_cases hl : ltN u.name v.name
      · have HN := Lib.hid (HK.out.step HU.out hl)
        have hd : Op.bytesLess u.name.toList v.name.toList = true := by rw [bytesLess_eq]; exact decide_eq_true hl
        clear hl
        go_wp2
        go_quiet (fail)
        go_wp2
        go_roundw
        case rel => exact ⟨k + 1, q + nq, by omega, by go_num, HN, by rw [HWZ.out, World.drewN_drewN]⟩
        case measure => simp [intOf]; omega
      · have hd : Op.bytesLess u.name.toList v.name.toList = false := by rw [bytesLess_eq]; exact decide_eq_false hl
        have HNL := Lib.hid hl
        clear hl
        by_cases he : u.name = v.name
        · have hd3 : (u.name.toList == v.name.toList) = true := by rw [he]; simp
          have HST := Lib.hid (set_at HG.out HK.out HU.out he)
          have HE := Lib.hid he
          clear he
          go_wp2
          go_quiet (fail)
          have hS1 := HSZ.out.drewN nq
          replace m0 : (wz.drewN nq).cell? ⟨mb, k * 4, none⟩ = _ := m0
          replace m1 : (wz.drewN nq).cell? ⟨mb, k * 4 + 1, none⟩ = _ := m1
          replace m2 : (wz.drewN nq).cell? ⟨mb, k * 4 + 2, none⟩ = _ := m2
          replace m3 : (wz.drewN nq).cell? ⟨mb, k * 4 + 3, none⟩ = _ := m3
          clear b0 b1 b2 b3 d0 g0 HBL HSZ hmz HWZ
          generalize wz.drewN nq = wy at hS1 m0 m1 m2 m3 ⊢
          obtain ⟨hbl, b0, b1, b2, b3, ⟨gx, d0⟩, g0⟩ := hS1.facts
          have HSY := Lib.hid hS1
          clear hbl hS1 wz
          go_wp2
          go_quiet (fail)
          have hS2 := HSY.out.drewN nq
          replace m0 : (wy.drewN nq).cell? ⟨mb, k * 4, none⟩ = _ := m0
          replace m1 : (wy.drewN nq).cell? ⟨mb, k * 4 + 1, none⟩ = _ := m1
          replace m2 : (wy.drewN nq).cell? ⟨mb, k * 4 + 2, none⟩ = _ := m2
          replace m3 : (wy.drewN nq).cell? ⟨mb, k * 4 + 3, none⟩ = _ := m3
          clear b0 b1 b2 b3 d0 g0 HSY
          generalize wy.drewN nq = wx at hS2 m0 m1 m2 m3 ⊢
          obtain ⟨hbl, b0, b1, b2, b3, ⟨gx, d0⟩, g0⟩ := hS2.facts
          have n0 := vrow_frozen hS2.row (k * 4)
          have n1 := vrow_frozen hS2.row (k * 4 + 1)
          have n2 := vrow_frozen hS2.row (k * 4 + 2)
          have n3 := vrow_frozen hS2.row (k * 4 + 3)
          have HRW := Lib.hid (vrow_put hS2.row k v hlt)
          have hmb1 : w1.heap.size ≤ mb := (hS2.row.lt mb rfl).1
          have hB4 : Below w1.heap.size wx ((((wx.setCell ⟨mb, k * 4, none⟩ (.string v.name)).setCell ⟨mb, k * 4 + 1, none⟩ (.string v.val)).setCell ⟨mb, k * 4 + 2, none⟩ (.int .i64 v.fl)).setCell ⟨mb, k * 4 + 3, none⟩ (.int .i64 v.og)) := ((((Below.refl _ wx).setCell hmb1 _).setCell hmb1 _).setCell hmb1 _).setCell hmb1 _
          have HB4 := Lib.hid hB4
          have hrbm : rb ≠ mb := by have := hS2.ref.hrz; omega
          have hnbm : w.heap.size ≠ mb := by have := lt_heap hS2.box; omega
          have HSX := Lib.hid hS2
          clear hbl hS2 hB4
          go_wp2
          go_end0
          refine ⟨rfl, ?_⟩
          rw [HST.out]
          exact (HSX.out.close HB4.out HRW.out (by rw [List.length_set]; omega)).before HA.out
        · have hd3 : (u.name.toList == v.name.toList) = false := by
            rw [Bool.eq_false_iff]; intro hh
            exact he (eq_toList (eq_of_beq hh))
          have hvu : ltN v.name u.name := by
            rcases ltN_tri u.name v.name with hh | hh | hh
            · exact absurd hh HNL.out
            · exact absurd hh he
            · exact hh
          have HST := Lib.hid (set_in HG.out HK.out hk (fun x hx => by rw [HU.out] at hx; obtain rfl := Option.some.inj hx; exact hvu))
          clear he hvu
          go_wp2
          go_quiet (fail)
          have hS1 := HSZ.out.drewN nq
          replace m0 : (wz.drewN nq).cell? ⟨mb, k * 4, none⟩ = _ := m0
          replace m1 : (wz.drewN nq).cell? ⟨mb, k * 4 + 1, none⟩ = _ := m1
          replace m2 : (wz.drewN nq).cell? ⟨mb, k * 4 + 2, none⟩ = _ := m2
          replace m3 : (wz.drewN nq).cell? ⟨mb, k * 4 + 3, none⟩ = _ := m3
          clear b0 b1 b2 b3 d0 g0 HBL HSZ hmz HWZ
          generalize wz.drewN nq = wy at hS1 m0 m1 m2 m3 ⊢
          obtain ⟨hbl, b0, b1, b2, b3, ⟨gx, d0⟩, g0⟩ := hS1.facts
          have HSY := Lib.hid hS1
          clear hbl hS1 wz
          go_wp2
          go_quiet (fail)
          have hS2 := HSY.out.drewN nq
          replace m0 : (wy.drewN nq).cell? ⟨mb, k * 4, none⟩ = _ := m0
          replace m1 : (wy.drewN nq).cell? ⟨mb, k * 4 + 1, none⟩ = _ := m1
          replace m2 : (wy.drewN nq).cell? ⟨mb, k * 4 + 2, none⟩ = _ := m2
          replace m3 : (wy.drewN nq).cell? ⟨mb, k * 4 + 3, none⟩ = _ := m3
          clear b0 b1 b2 b3 d0 g0 HSY
          generalize wy.drewN nq = wx at hS2 m0 m1 m2 m3 ⊢
          obtain ⟨hbl, b0, b1, b2, b3, ⟨gx, d0⟩, g0⟩ := hS2.facts
          have HSX := Lib.hid hS2
          have HBX2 := Lib.hid hbl
          have hsrc := Src.of_row hS2.row
          have HT1 := Lib.hid (hsrc.take (k := k) hk)
          rw [← varsV_take _ _ hk] at HT1
          have HT2 := Lib.hid (src_tail hsrc hk)
          simp only [Nat.zero_add] at HT2
          have HSZ1 : Hid (w1.heap.size ≤ wx.heap.size) := Lib.hid hS2.below.size
          have hcm : G.length ≤ cm ∧ cm ≤ maxLen := by
            rcases hS2.row.2 with ⟨h0, _⟩ | ⟨g, cap, cur, he, hg, _, h1, h2, _⟩
            · cases h0
            · injection he with _ _ h3
              rw [h3]; exact ⟨h1, h2⟩
          obtain ⟨hcm1, hcm2⟩ := hcm
          unfold maxLen at hcm2
          have hcap : ¬ cm = k := by omega
          have q1 : ¬ ((k : Int) < 0) := by omega
          have q2 : ¬ ((cm : Int) < (k : Int)) := by omega
          have q3 : (k : Int) ≤ (cm : Int) := by omega
          have q4 : ¬ ((G.length : Int) < (k : Int)) := by omega
          have q5 : (k : Int) ≤ (G.length : Int) := by omega
          clear hbl hS2 hsrc
          go_wp2
          go_region_law (first
            | (refine step_append_any _ (by rfl) _ _ _ (by rfl) wx.heap.size 27 i0 _ 4 48 Tryd.underlying28 hi hz0 hz1 hz2 rfl (by omega) (.slice none 0 0) 0 [] (by rfl) (World.ownsRow_nil _ _ _ _) _ _ _ (varsV (G.take k)) (by rfl) (HT1.out.later (Below.drew (Below.refl _ wx))) (varsV_one _) (by unfold maxLen; omega) (by omega) (Nat.le_refl _) ?_; intro v1 w3 hown1 hgr1 hat1; rw [Nat.zero_add, List.nil_append] at hown1; obtain ⟨a3, c3, rfl⟩ := slice_of hown1; have B1 := Lib.hid ((Below.drew (Below.refl wx.heap.size wx)).grown hgr1 (Nat.le_refl _) (fun j hj => by cases hj)); have S1 := B1.out.size; have R1 := Lib.hid hown1; have hbb := (B1.out.block w.heap.size (lt_heap HBX2.out)).trans HBX2.out; have p0 := cell_of_block (j := 0) hbb; have p1 := cell_of_block (j := 1) hbb; have p2 := cell_of_block (j := 2) hbb; have p3 := cell_of_block (j := 3) hbb; simp only [Vr.cells, List.getElem?_toArray, List.getElem?_cons_zero, List.getElem?_cons_succ] at p0 p1 p2 p3; clear hown1 hgr1 hat1 hbb)
            | (refine step_append_any _ (by rfl) _ _ _ (by rfl) wx.heap.size 27 i0 _ 4 48 Tryd.underlying28 hi hz0 hz1 hz2 rfl (by omega) (.slice none 0 0) 0 [] (by rfl) (World.ownsRow_nil _ _ _ _) _ _ _ (varsV (G.take k)) (by rfl) (HT1.out.later (by first | exact Below.drew ((Below.refl _ wx).alloc (Nat.le_refl _) _) | exact (Below.drew (Below.refl _ wx)).alloc (Nat.le_refl _) _)) (varsV_one _) (by unfold maxLen; omega) (by omega) (by simp) ?_; intro v1 w3 hown1 hgr1 hat1; rw [Nat.zero_add, List.nil_append] at hown1; obtain ⟨a3, c3, rfl⟩ := slice_of hown1; have N1 := Lib.hid (row_new hgr1); have B1 := Lib.hid (below_new hgr1); have S1 := B1.out.size; have R1 := Lib.hid hown1; clear hown1 hgr1 hat1)
            | (refine step_append_any _ (by rfl) _ _ _ (by rfl) wx.heap.size 27 i0 _ 4 48 Tryd.underlying28 hi hz0 hz1 hz2 rfl (by omega) (.slice a3 k c3) _ _ (by rfl) (R1.out.alloc _) (some ⟨w3.heap.size, 0, none⟩) 1 1 v.cells (by rfl) (src_block (heap_alloc_new w3 _)) (Vr.cells_one v) (by unfold maxLen; omega) (by omega) (by simp; omega) ?_; intro v2 w4 hown2 hgr2 hat2; obtain ⟨a4, c4, rfl⟩ := slice_of hown2; have B2 := Lib.hid ((B1.out.alloc S1 _).grown hgr2 (by simp; omega) (fun j hj => (R1.out.lt j hj).1)); have S2 := B2.out.size; have R2 := Lib.hid hown2; clear hown2 hgr2 hat2)
            | (refine step_append_any _ (by rfl) _ _ _ (by rfl) wx.heap.size 27 i0 _ 4 48 Tryd.underlying28 hi hz0 hz1 hz2 rfl (by omega) (.slice a3 k c3) _ _ (by rfl) R1.out (some ⟨wx.heap.size, 0, none⟩) 1 1 v.cells (by rfl) (src_block N1.out) (Vr.cells_one v) (by unfold maxLen; omega) (by omega) (by omega) ?_; intro v2 w4 hown2 hgr2 hat2; obtain ⟨a4, c4, rfl⟩ := slice_of hown2; have B2 := Lib.hid (B1.out.grown hgr2 S1 (fun j hj => (R1.out.lt j hj).1)); have S2 := B2.out.size; have R2 := Lib.hid hown2; clear hown2 hgr2 hat2)
            | (refine step_append_any _ (by rfl) _ _ _ (by rfl) wx.heap.size 27 i0 _ 4 48 Tryd.underlying28 hi hz0 hz1 hz2 rfl (by omega) (.slice a4 (k + 1) c4) _ _ (by rfl) R2.out _ _ _ (varsV (G.drop k)) (by rfl) (HT2.out.later B2.out) (varsV_one _) (by unfold maxLen; omega) (by omega) (by omega) ?_; intro v3 w5 hown3 hgr3 hat3; obtain ⟨a5, c5, rfl⟩ := slice_of hown3; have B3 := Lib.hid (B2.out.grown hgr3 S2 (fun j hj => (R2.out.lt j hj).1)); have S3 := B3.out.size; have R3 := Lib.hid hown3; clear hown3 hgr3 hat3))
          all_goals
            have e0 := (HSX.out.ref.later (HSX.out.below.trans (B3.out.mono HSZ1.out))).c0
            have h0 := (HSX.out.ref.later (HSX.out.below.trans (B3.out.mono HSZ1.out))).f0
            go_wp2
            go_end0
            refine ⟨rfl, ?_⟩
            have hr := row_base R3.out HSZ1.out
            rw [← varsV_cells, ← varsV_append, ← varsV_append] at hr
            rw [HST.out]
            have hz := (HSX.out.close (B3.out.mono HSZ1.out) hr (by rw [← HST.out]; have := HGL.out; omega)).before HA.out
            first | exact hz | simpa only [Nat.zero_add, Nat.add_zero] using hz
    · have j1 : ¬ ((k : Int) < (G.length : Int)) := by omega
      have hd1 : decide ((k : Int) < (G.length : Int)) = false := decide_eq_false (by omega)
      have hd2 : decide (k < G.length) = false := decide_eq_false (by omega)
      have HST := Lib.hid (set_in HG.out HK.out hk (fun x hx => absurd (List.getElem?_eq_some_iff.mp hx).1 (by omega)))
      go_wp2
      go_quiet (fail)
      have hS1 := HSZ.out.drewN nq
      clear b0 b1 b2 b3 d0 g0 HBL HSZ HWZ
      generalize wz.drewN nq = wy at hS1 ⊢
      obtain ⟨hbl, b0, b1, b2, b3, ⟨gx, d0⟩, g0⟩ := hS1.facts
      have HSY := Lib.hid hS1
      clear hbl hS1 wz
      go_wp2
      go_quiet (fail)
      have hS2 := HSY.out.drewN nq
      clear b0 b1 b2 b3 d0 g0 HSY
      generalize wy.drewN nq = wx at hS2 ⊢
      obtain ⟨hbl, b0, b1, b2, b3, ⟨gx, d0⟩, g0⟩ := hS2.facts
      have HSX := Lib.hid hS2
      have HBX2 := Lib.hid hbl
      have hsrc := Src.of_row hS2.row
      have HT1 := Lib.hid (hsrc.take (k := k) hk)
      rw [← varsV_take _ _ hk] at HT1
      have HSZ1 : Hid (w1.heap.size ≤ wx.heap.size) := Lib.hid hS2.below.size
      have hcm : G.length ≤ cm ∧ cm ≤ maxLen := by
        rcases hS2.row.2 with ⟨h0, h1⟩ | ⟨g, cap, cur, he, hg, _, h1, h2, _⟩
        · injection h0 with _ _ h3
          exact ⟨by omega, by unfold maxLen; omega⟩
        · injection he with _ _ h3
          rw [h3]; exact ⟨h1, h2⟩
      obtain ⟨hcm1, hcm2⟩ := hcm
      unfold maxLen at hcm2
      have hkge : G.length ≤ k := by omega
      by_cases hcap : k = cm
      · obtain rfl : k = cm := hcap
        have q1 : ¬ ((k : Int) < 0) := by omega
        have q2 : ¬ ((k : Int) < (k : Int)) := by omega
        have q4 : ¬ ((G.length : Int) < (k : Int)) := by omega
        have q5 : (k : Int) ≤ (G.length : Int) := by omega
        clear hbl hS2 hsrc
        go_wp2
        go_region_law (first
          | (refine step_append_any _ (by rfl) _ _ _ (by rfl) wx.heap.size 27 i0 _ 4 48 Tryd.underlying28 hi hz0 hz1 hz2 rfl (by omega) (.slice none 0 0) 0 [] (by rfl) (World.ownsRow_nil _ _ _ _) _ _ _ (varsV (G.take k)) (by rfl) (HT1.out.later (Below.drew (Below.refl _ wx))) (varsV_one _) (by unfold maxLen; omega) (by omega) (Nat.le_refl _) ?_; intro v1 w3 hown1 hgr1 hat1; rw [Nat.zero_add, List.nil_append] at hown1; obtain ⟨a3, c3, rfl⟩ := slice_of hown1; have B1 := Lib.hid ((Below.drew (Below.refl wx.heap.size wx)).grown hgr1 (Nat.le_refl _) (fun j hj => by cases hj)); have S1 := B1.out.size; have R1 := Lib.hid hown1; have hbb := (B1.out.block w.heap.size (lt_heap HBX2.out)).trans HBX2.out; have p0 := cell_of_block (j := 0) hbb; have p1 := cell_of_block (j := 1) hbb; have p2 := cell_of_block (j := 2) hbb; have p3 := cell_of_block (j := 3) hbb; simp only [Vr.cells, List.getElem?_toArray, List.getElem?_cons_zero, List.getElem?_cons_succ] at p0 p1 p2 p3; clear hown1 hgr1 hat1 hbb)
          | (refine step_append_any _ (by rfl) _ _ _ (by rfl) wx.heap.size 27 i0 _ 4 48 Tryd.underlying28 hi hz0 hz1 hz2 rfl (by omega) (.slice none 0 0) 0 [] (by rfl) (World.ownsRow_nil _ _ _ _) _ _ _ (varsV (G.take k)) (by rfl) (HT1.out.later (by first | exact Below.drew ((Below.refl _ wx).alloc (Nat.le_refl _) _) | exact (Below.drew (Below.refl _ wx)).alloc (Nat.le_refl _) _)) (varsV_one _) (by unfold maxLen; omega) (by omega) (by simp) ?_; intro v1 w3 hown1 hgr1 hat1; rw [Nat.zero_add, List.nil_append] at hown1; obtain ⟨a3, c3, rfl⟩ := slice_of hown1; have N1 := Lib.hid (row_new hgr1); have B1 := Lib.hid (below_new hgr1); have S1 := B1.out.size; have R1 := Lib.hid hown1; clear hown1 hgr1 hat1)
          | (refine step_append_any _ (by rfl) _ _ _ (by rfl) wx.heap.size 27 i0 _ 4 48 Tryd.underlying28 hi hz0 hz1 hz2 rfl (by omega) (.slice a3 k c3) _ _ (by rfl) (R1.out.alloc _) (some ⟨w3.heap.size, 0, none⟩) 1 1 v.cells (by rfl) (src_block (heap_alloc_new w3 _)) (Vr.cells_one v) (by unfold maxLen; omega) (by omega) (by simp; omega) ?_; intro v2 w4 hown2 hgr2 hat2; obtain ⟨a4, c4, rfl⟩ := slice_of hown2; have B2 := Lib.hid ((B1.out.alloc S1 _).grown hgr2 (by simp; omega) (fun j hj => (R1.out.lt j hj).1)); have S2 := B2.out.size; have R2 := Lib.hid hown2; clear hown2 hgr2 hat2)
          | (refine step_append_any _ (by rfl) _ _ _ (by rfl) wx.heap.size 27 i0 _ 4 48 Tryd.underlying28 hi hz0 hz1 hz2 rfl (by omega) (.slice a3 k c3) _ _ (by rfl) R1.out (some ⟨wx.heap.size, 0, none⟩) 1 1 v.cells (by rfl) (src_block N1.out) (Vr.cells_one v) (by unfold maxLen; omega) (by omega) (by omega) ?_; intro v2 w4 hown2 hgr2 hat2; obtain ⟨a4, c4, rfl⟩ := slice_of hown2; have B2 := Lib.hid (B1.out.grown hgr2 S1 (fun j hj => (R1.out.lt j hj).1)); have S2 := B2.out.size; have R2 := Lib.hid hown2; clear hown2 hgr2 hat2)
          | (refine step_append_any _ (by rfl) _ _ _ (by rfl) wx.heap.size 27 i0 _ 4 48 Tryd.underlying28 hi hz0 hz1 hz2 rfl (by omega) (.slice a4 (k + 1) c4) _ _ (by rfl) R2.out _ _ _ (varsV (G.drop k)) (by rfl) (src_zero (by omega) (by omega)) (varsV_one _) (by unfold maxLen; omega) (by omega) (by omega) ?_; intro v3 w5 hown3 hgr3 hat3; obtain ⟨a5, c5, rfl⟩ := slice_of hown3; have B3 := Lib.hid (B2.out.grown hgr3 S2 (fun j hj => (R2.out.lt j hj).1)); have S3 := B3.out.size; have R3 := Lib.hid hown3; clear hown3 hgr3 hat3))
        all_goals
          have e0 := (HSX.out.ref.later (HSX.out.below.trans (B3.out.mono HSZ1.out))).c0
          have h0 := (HSX.out.ref.later (HSX.out.below.trans (B3.out.mono HSZ1.out))).f0
          go_wp2
          go_end0
          refine ⟨rfl, ?_⟩
          have hr := row_base R3.out HSZ1.out
          rw [← varsV_cells, ← varsV_append, ← varsV_append] at hr
          rw [HST.out]
          have hz := (HSX.out.close (B3.out.mono HSZ1.out) hr (by rw [← HST.out]; have := HGL.out; omega)).before HA.out
          first | exact hz | simpa only [Nat.zero_add, Nat.add_zero] using hz
      · have hcap2 : ¬ cm = k := fun e => hcap e.symm
        have q1 : ¬ ((k : Int) < 0) := by omega
        have q2 : ¬ ((cm : Int) < (k : Int)) := by omega
        have q3 : (k : Int) ≤ (cm : Int) := by omega
        have q4 : ¬ ((G.length : Int) < (k : Int)) := by omega
        have q5 : (k : Int) ≤ (G.length : Int) := by omega
        clear hbl hS2 hsrc
        go_wp2
        go_region_law (first
          | (refine step_append_any _ (by rfl) _ _ _ (by rfl) wx.heap.size 27 i0 _ 4 48 Tryd.underlying28 hi hz0 hz1 hz2 rfl (by omega) (.slice none 0 0) 0 [] (by rfl) (World.ownsRow_nil _ _ _ _) _ _ _ (varsV (G.take k)) (by rfl) (HT1.out.later (Below.drew (Below.refl _ wx))) (varsV_one _) (by unfold maxLen; omega) (by omega) (Nat.le_refl _) ?_; intro v1 w3 hown1 hgr1 hat1; rw [Nat.zero_add, List.nil_append] at hown1; obtain ⟨a3, c3, rfl⟩ := slice_of hown1; have B1 := Lib.hid ((Below.drew (Below.refl wx.heap.size wx)).grown hgr1 (Nat.le_refl _) (fun j hj => by cases hj)); have S1 := B1.out.size; have R1 := Lib.hid hown1; have hbb := (B1.out.block w.heap.size (lt_heap HBX2.out)).trans HBX2.out; have p0 := cell_of_block (j := 0) hbb; have p1 := cell_of_block (j := 1) hbb; have p2 := cell_of_block (j := 2) hbb; have p3 := cell_of_block (j := 3) hbb; simp only [Vr.cells, List.getElem?_toArray, List.getElem?_cons_zero, List.getElem?_cons_succ] at p0 p1 p2 p3; clear hown1 hgr1 hat1 hbb)
          | (refine step_append_any _ (by rfl) _ _ _ (by rfl) wx.heap.size 27 i0 _ 4 48 Tryd.underlying28 hi hz0 hz1 hz2 rfl (by omega) (.slice none 0 0) 0 [] (by rfl) (World.ownsRow_nil _ _ _ _) _ _ _ (varsV (G.take k)) (by rfl) (HT1.out.later (by first | exact Below.drew ((Below.refl _ wx).alloc (Nat.le_refl _) _) | exact (Below.drew (Below.refl _ wx)).alloc (Nat.le_refl _) _)) (varsV_one _) (by unfold maxLen; omega) (by omega) (by simp) ?_; intro v1 w3 hown1 hgr1 hat1; rw [Nat.zero_add, List.nil_append] at hown1; obtain ⟨a3, c3, rfl⟩ := slice_of hown1; have N1 := Lib.hid (row_new hgr1); have B1 := Lib.hid (below_new hgr1); have S1 := B1.out.size; have R1 := Lib.hid hown1; clear hown1 hgr1 hat1)
          | (refine step_append_any _ (by rfl) _ _ _ (by rfl) wx.heap.size 27 i0 _ 4 48 Tryd.underlying28 hi hz0 hz1 hz2 rfl (by omega) (.slice a3 k c3) _ _ (by rfl) (R1.out.alloc _) (some ⟨w3.heap.size, 0, none⟩) 1 1 v.cells (by rfl) (src_block (heap_alloc_new w3 _)) (Vr.cells_one v) (by unfold maxLen; omega) (by omega) (by simp; omega) ?_; intro v2 w4 hown2 hgr2 hat2; obtain ⟨a4, c4, rfl⟩ := slice_of hown2; have B2 := Lib.hid ((B1.out.alloc S1 _).grown hgr2 (by simp; omega) (fun j hj => (R1.out.lt j hj).1)); have S2 := B2.out.size; have R2 := Lib.hid hown2; clear hown2 hgr2 hat2)
          | (refine step_append_any _ (by rfl) _ _ _ (by rfl) wx.heap.size 27 i0 _ 4 48 Tryd.underlying28 hi hz0 hz1 hz2 rfl (by omega) (.slice a3 k c3) _ _ (by rfl) R1.out (some ⟨wx.heap.size, 0, none⟩) 1 1 v.cells (by rfl) (src_block N1.out) (Vr.cells_one v) (by unfold maxLen; omega) (by omega) (by omega) ?_; intro v2 w4 hown2 hgr2 hat2; obtain ⟨a4, c4, rfl⟩ := slice_of hown2; have B2 := Lib.hid (B1.out.grown hgr2 S1 (fun j hj => (R1.out.lt j hj).1)); have S2 := B2.out.size; have R2 := Lib.hid hown2; clear hown2 hgr2 hat2)
          | (refine step_append_any _ (by rfl) _ _ _ (by rfl) wx.heap.size 27 i0 _ 4 48 Tryd.underlying28 hi hz0 hz1 hz2 rfl (by omega) (.slice a4 (k + 1) c4) _ _ (by rfl) R2.out _ _ _ (varsV (G.drop k)) (by rfl) (src_zero (by omega) (by omega)) (varsV_one _) (by unfold maxLen; omega) (by omega) (by omega) ?_; intro v3 w5 hown3 hgr3 hat3; obtain ⟨a5, c5, rfl⟩ := slice_of hown3; have B3 := Lib.hid (B2.out.grown hgr3 S2 (fun j hj => (R2.out.lt j hj).1)); have S3 := B3.out.size; have R3 := Lib.hid hown3; clear hown3 hgr3 hat3))
        all_goals
          have e0 := (HSX.out.ref.later (HSX.out.below.trans (B3.out.mono HSZ1.out))).c0
          have h0 := (HSX.out.ref.later (HSX.out.below.trans (B3.out.mono HSZ1.out))).f0
          go_wp2
          go_end0
          refine ⟨rfl, ?_⟩
          have hr := row_base R3.out HSZ1.out
          rw [← varsV_cells, ← varsV_append, ← varsV_append] at hr
          rw [HST.out]
          have hz := (HSX.out.close (B3.out.mono HSZ1.out) hr (by rw [← HST.out]; have := HGL.out; omega)).before HA.out
          first | exact hz | simpa only [Nat.zero_add, Nat.add_zero] using hz
end Go.Proofs.YtjmaficiinhjpaaDoor.G
