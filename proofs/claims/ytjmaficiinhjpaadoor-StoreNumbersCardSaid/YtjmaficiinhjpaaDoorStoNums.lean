/- wainwrightlaw17.StoreNumbers: the walk. -/
import Derived.Test.YtjmaficiinhjpaaDoorStoPlays
namespace Go.Proofs.YtjmaficiinhjpaaDoor.G
open Go.RowKit Go.Maps Go.WideMaps Go.Sort
attribute [local irreducible] dig

theorem name_at : ∀ t : Nat, t < 8 → ∃ s : ByteArray, s.size ≤ 3 ∧ ∀ w, (Instr.index 45 (.agg #[.string ⟨#[97]⟩, .string ⟨#[98]⟩, .string ⟨#[48]⟩, .string ⟨#[49]⟩, .string ⟨#[49, 50]⟩, .string ⟨#[99, 49]⟩, .string ⟨#[]⟩, .string ⟨#[97, 32, 98]⟩]) (.int .i64 (t : Int))).run Tryd.prog w = .ok (.string s) w
  | 0, _ => ⟨⟨#[97]⟩, by decide, fun _ => by kernel_rfl⟩
  | 1, _ => ⟨⟨#[98]⟩, by decide, fun _ => by kernel_rfl⟩
  | 2, _ => ⟨⟨#[48]⟩, by decide, fun _ => by kernel_rfl⟩
  | 3, _ => ⟨⟨#[49]⟩, by decide, fun _ => by kernel_rfl⟩
  | 4, _ => ⟨⟨#[49, 50]⟩, by decide, fun _ => by kernel_rfl⟩
  | 5, _ => ⟨⟨#[99, 49]⟩, by decide, fun _ => by kernel_rfl⟩
  | 6, _ => ⟨⟨#[]⟩, by decide, fun _ => by kernel_rfl⟩
  | 7, _ => ⟨⟨#[97, 32, 98]⟩, by decide, fun _ => by kernel_rfl⟩
  | n + 8, h => absurd h (by omega)
set_option maxHeartbeats 1000000 in
theorem name_calls (a : Int) (h0 : 0 ≤ a) (w : World) : Calls Tryd.prog 18 #[.int .i64 a] w fun e w' => ∃ s : ByteArray, e = .returned (.string s) ∧ s.size ≤ 3 ∧ w = w' := by
  obtain ⟨t, ht, ht8⟩ : ∃ t : Nat, a.tmod 8 = (t : Int) ∧ t < 8 := ⟨(a % 8).toNat, by rw [Int.tmod_eq_emod_of_nonneg h0]; omega, by omega⟩
  obtain ⟨s, hs, hix⟩ := name_at t ht8
  go_enter Tryd.func18, Tryd.ntmps18
  go_wp2
  go_ret
  exact ⟨s, rfl, hs, rfl⟩
theorem Bk.new {base : Nat} {w w' : World} {sb rb n : Nat} {G G' : List Vr} {X X' : List (List Vr × Bool)} {t t' : Int} (h : Bk base w sb rb n G X t G' X' t' []) (hb : Below w.heap.size w w') {b : Nat} {o : Obj} (hz : w.heap.size ≤ b) (ho : w'.heap[b]? = some o) : Bk base w' sb rb n G X t G' X' t' [(b, o)] := by
  have hr := h.rbz
  obtain ⟨gm, fv, F, B, XR, hS, hF, ⟨gA, fA, cA, gc, fc, cc, hR⟩, hX, hd, hK⟩ := h
  refine ⟨gm, fv, F, B, XR, hS.later hb, hF, ⟨_, _, _, _, _, _, hR.later hb⟩, hX, hd, fun p hp => ?_⟩
  obtain rfl : p = (b, o) := by simpa using hp
  exact ⟨ho, fun hf => by have := (hS.footz _ hf).2; simp at this; omega, by show b ≠ rb; omega⟩

/-- The instruction under way: its box (block ob), its list. -/
def NumW (wr wj : World) (j : Nat) : Prop := ∃ (kd : Int) (nm : ByteArray) (cb : Bool) (A : Option Addr) (c : Nat) (lv : List Vr), lv.length = j ∧ nm.size ≤ 3 ∧ (∀ v ∈ lv, v.name.size ≤ 3) ∧
  wj.cell? ⟨wr.heap.size, 0, none⟩ = some (.int .i64 kd) ∧ wj.cell? ⟨wr.heap.size, 1, none⟩ = some (.string nm) ∧ wj.cell? ⟨wr.heap.size, 2, none⟩ = some (.slice A j c) ∧ wj.cell? ⟨wr.heap.size, 3, none⟩ = some (.bool cb) ∧
  wj.frozen? ⟨wr.heap.size, 2, none⟩ = false ∧ wj.ownsRow (wr.heap.size + 1) 27 4 (.slice A j c) j (varsV lv) ∧ Below wr.heap.size wr wj ∧ wr.heap.size + 1 ≤ wj.heap.size
theorem num_ink {base : Nat} {wr wj : World} {sb rb n : Nat} {G G' : List Vr} {X X' : List (List Vr × Bool)} {t t' : Int} (h : Bk base wr sb rb n G X t G' X' t' []) (hb : Below wr.heap.size wr wj) {A : Option Addr} {c : Nat} {lv : List Vr} (hr : wj.ownsRow (wr.heap.size + 1) 27 4 (.slice A lv.length c) lv.length (varsV lv)) :
    ∃ K, Bk base wj sb rb n G X t G' X' t' K ∧ InK wj K A lv := by
  have hv := src_vars (Src.of_row hr)
  by_cases hl : 0 < lv.length
  · obtain ⟨h1, _⟩ := row_block hr
    obtain ⟨b, off, rfl, hbz, _⟩ := hv hl
    obtain ⟨o, ho⟩ : ∃ o, wj.heap[b]? = some o := ⟨_, Array.getElem?_eq_getElem hbz⟩
    have := (h1 hl _ rfl).1
    exact ⟨[(b, o)], h.new hb (by simp at this; omega) ho, hv, fun _ a e => by obtain rfl := Option.some.inj e; exact ⟨o, by simp⟩⟩
  · exact ⟨[], h.later hb, hv, fun hp => absurd hp hl⟩
theorem num_step {wr wj wq w4 : World} {o : Obj} {A A' : Option Addr} {c c' j : Nat} {lv : List Vr} {v : Vr} {kd : Int} {nm : ByteArray} {cb : Bool} (hl : lv.length = j) (hnm : nm.size ≤ 3) (hs : ∀ v ∈ lv, v.name.size ≤ 3) (hv : v.name.size ≤ 3)
    (h0 : wj.cell? ⟨wr.heap.size, 0, none⟩ = some (.int .i64 kd)) (h1 : wj.cell? ⟨wr.heap.size, 1, none⟩ = some (.string nm)) (h2 : wj.cell? ⟨wr.heap.size, 2, none⟩ = some (.slice A j c)) (h3 : wj.cell? ⟨wr.heap.size, 3, none⟩ = some (.bool cb)) (hf : wj.frozen? ⟨wr.heap.size, 2, none⟩ = false)
    (hrow : wj.ownsRow (wr.heap.size + 1) 27 4 (.slice A j c) j (varsV lv)) (hb : Below wr.heap.size wr wj) (hz : wr.heap.size + 1 ≤ wj.heap.size)
    (hd : Below wj.heap.size wj wq) (hg : (wq.alloc o).grownBy w4 (Value.ownBlock (.slice A j c))) (hr4 : w4.ownsRow (wr.heap.size + 1) 27 4 (.slice A' (j + 1) c') (j + 1) (varsV lv ++ v.cells)) :
    (w4.cell? ⟨wr.heap.size, 2, none⟩ = some (.slice A j c) ∧ w4.frozen? ⟨wr.heap.size, 2, none⟩ = false) ∧ NumW wr (w4.setCell ⟨wr.heap.size, 2, none⟩ (.slice A' (j + 1) c')) (j + 1) := by
  have hdz := hd.size
  have hk : w4.heap[wr.heap.size]? = wj.heap[wr.heap.size]? := ((hg.block _ (by simp; omega) (fun e => by have := (hrow.lt _ e.symm).1; omega)).trans (Below.heap_alloc wq o _ (by omega))).trans (hd.block _ (by omega))
  have hz4 : wr.heap.size + 1 ≤ w4.heap.size := by have := hg.size; simp at this; omega
  have hb4 : Below wr.heap.size wr w4 := ((hb.trans (hd.mono (by omega))).alloc (by omega) o).grown hg (by simp; omega) (fun k e => by have := (hrow.lt k e).1; omega)
  refine ⟨⟨(cells_kept hk).trans h2, (frozen_kept hk).trans hf⟩, kd, nm, cb, A', c', lv ++ [v], by simp [hl], hnm, fun u hu => ?_, ?_, ?_, ?_, ?_, ?_, ?_, hb4.setCell (Nat.le_refl _) _, by simpa [World.setCell] using hz4⟩
  · rcases List.mem_append.mp hu with hu | hu
    · exact hs u hu
    · obtain rfl := List.mem_singleton.mp hu
      exact hv
  · rw [World.cell?_setCell_other w4 ⟨wr.heap.size, 2, none⟩ _ _ (by simp)]; exact (cells_kept hk).trans h0
  · rw [World.cell?_setCell_other w4 ⟨wr.heap.size, 2, none⟩ _ _ (by simp)]; exact (cells_kept hk).trans h1
  · exact World.cell?_setCell_same w4 ⟨wr.heap.size, 2, none⟩ _ ((cells_kept hk).trans h2)
  · rw [World.cell?_setCell_other w4 ⟨wr.heap.size, 2, none⟩ _ _ (by simp)]; exact (cells_kept hk).trans h3
  · rw [World.frozen?_setCell]; exact (frozen_kept hk).trans hf
  · rw [varsV_snoc]
    exact row_kept hr4 (fun k e => Below.heap_setCell _ _ _ _ (by show k ≠ wr.heap.size; have := (hr4.lt k e).1; omega))
theorem below_drewN (B : Nat) (w : World) (m : Nat) : Below B w (w.drewN m) := ⟨rfl, rfl, rfl, Nat.le_refl _, fun _ _ => rfl⟩
theorem size_al (w : World) (m : Nat) (o : Obj) : w.heap.size ≤ ((w.drewN m).alloc o).heap.size := by
  show w.heap.size ≤ (w.heap.push o).size
  simp
theorem num_start (wr : World) (kd : Int) (nm : ByteArray) (cb : Bool) (h : nm.size ≤ 3) : NumW wr (wr.alloc (.cells #[.int .i64 kd, .string nm, .slice none 0 0, .bool cb] 42)) 0 := by
  have ho := heap_alloc_new wr (.cells #[.int .i64 kd, .string nm, .slice none 0 0, .bool cb] 42)
  exact ⟨kd, nm, cb, none, 0, [], rfl, h, fun v hv => absurd hv (by simp), cell_of_block ho, cell_of_block ho, cell_of_block ho, cell_of_block ho, by unfold World.frozen?; rw [ho]; rfl, World.ownsRow_nil _ _ _ _, (Below.refl _ wr).alloc (Nat.le_refl _) _, by simp⟩
theorem num_facts (q : Nat) (hq : q < 1073741824) : ∃ p9 q9 q72 p72 q144 m q432 r p2 p4 : Nat,
    ((q : Int).tmod 9 = (p9 : Int) ∧ IntKind.i64.wrap ((q : Int).tdiv 9) = (q9 : Int) ∧ IntKind.i64.wrap ((q : Int) / 9) = (q9 : Int)) ∧
    (IntKind.i64.wrap ((q : Int).tdiv 72) = (q72 : Int) ∧ IntKind.i64.wrap ((q : Int) / 72) = (q72 : Int) ∧ (q72 : Int).tmod 2 = (p72 : Int)) ∧
    (IntKind.i64.wrap ((q : Int).tdiv 144) = (q144 : Int) ∧ IntKind.i64.wrap ((q : Int) / 144) = (q144 : Int) ∧ (q144 : Int).tmod 3 = (m : Int) ∧ IntKind.i64.wrap (1 + (m : Int)) = 1 + (m : Int) ∧ m < 3) ∧
    (IntKind.i64.wrap ((q : Int).tdiv 432) = (q432 : Int) ∧ IntKind.i64.wrap ((q : Int) / 432) = (q432 : Int) ∧ q432 < 1073741824) ∧
    ((q : Int).tmod 1000 = (r : Int) ∧ r < 1000) ∧ ((q : Int).tmod 2 = (p2 : Int) ∧ IntKind.i64.wrap (1 + (p2 : Int)) = 1 + (p2 : Int)) ∧ (q : Int).tmod 4 = (p4 : Int) ∧ IntKind.i64.wrap (1 + (p4 : Int)) = 1 + (p4 : Int) := by
  have hm : ∀ (a : Nat) (k : Nat), (a : Int).tmod (k : Int) = ((a % k : Nat) : Int) := fun a k => by rw [Int.tmod_eq_emod_of_nonneg (by omega)]; rfl
  have hd : ∀ (k : Nat), IntKind.i64.wrap ((q : Int).tdiv (k : Int)) = ((q / k : Nat) : Int) := fun k => by
    rw [Int.tdiv_eq_ediv_of_nonneg (by omega)]
    have := Nat.div_le_self q k
    show IntKind.i64.wrap ((q / k : Nat) : Int) = _
    generalize q / k = z at this
    exact IntWalk.i64_in (z : Int) (by omega)
  have hd2 : ∀ (k : Nat), IntKind.i64.wrap ((q : Int) / (k : Int)) = ((q / k : Nat) : Int) := fun k => by
    have := Nat.div_le_self q k
    show IntKind.i64.wrap ((q / k : Nat) : Int) = _
    generalize q / k = z at this
    exact IntWalk.i64_in (z : Int) (by omega)
  have hw : ∀ a : Nat, a < 100 → IntKind.i64.wrap (1 + (a : Int)) = 1 + (a : Int) := fun a ha => IntWalk.i64_in _ (by omega)
  exact ⟨q % 9, q / 9, q / 72, q / 72 % 2, q / 144, q / 144 % 3, q / 432, q % 1000, q % 2, q % 4, ⟨hm q 9, hd 9, hd2 9⟩, ⟨hd 72, hd2 72, hm _ 2⟩, ⟨hd 144, hd2 144, hm _ 3, hw _ (by omega), by omega⟩, ⟨hd 432, hd2 432, by omega⟩, ⟨hm q 1000, by omega⟩, ⟨hm q 2, hw _ (by omega)⟩, hm q 4, hw _ (by omega)⟩

set_option maxHeartbeats 16000000 in
set_option maxRecDepth 100000 in
theorem nums_any (a0 : Option Addr) (len0 cap0 : Nat) (z0 : List Int) (w : World)
    (hidx : ∀ k, k < len0 → ∃ b off, a0 = some ⟨b, off, none⟩ ∧ b < w.heap.size ∧ ∀ j, j < len0 → w.cell? ⟨b, off + j, none⟩ = some (.int .i64 (z0.getD j 0))) :
    Calls Tryd.prog 5 #[.slice a0 len0 cap0] w fun e w' => e = .returned (.bool true) ∧ Below w.heap.size w w' := by
  obtain ⟨i0, hi, hz0, hz1, hz2⟩ := info_parts info_var
  have HIDX := Lib.hid hidx
  have HN0 := Lib.hid (New.calls [] none 0 w (fun h => absurd h (by simp)) (by simp) (fun v hv => absurd hv (by simp)))
  have HR0 := Lib.hid (fun W => rnew_calls [] none 0 W (fun h => absurd h (by simp)) (by simp))
  clear hidx
  go_enter Tryd.func5, Tryd.ntmps5
  go_wp2_with (first
    | (go_at_call 7; refine HN0.out.mono ?_; rintro e w2 ⟨sb, gm, rfl, hS2, hb2⟩; have HS2 := Lib.hid hS2; have B2 := Lib.hid hb2; clear hS2 hb2)
    | (go_at_call 16; refine (HR0.out _).mono ?_; rintro e w3 ⟨rb, B, rfl, hR3, hb3⟩; have HBK := Lib.hid (made_bk HS2.out hR3 hb3); have B3 := Lib.hid (B2.out.trans (hb3.mono B2.out.size)); clear hR3 hb3))
  go_loopw [5] (fun i wr => ∃ (k n : Nat) (G : List Vr) (X : List (List Vr × Bool)) (t : Int), k ≤ 100 ∧ i = .int .i64 k ∧ n ≤ k ∧ Hid (G.length ≤ k) ∧ Hid (X.length ≤ k) ∧ Hid (Bk w.heap.size wr sb rb n G X t G X t []) ∧ Hid (Below w.heap.size w wr)) (fun i _ => 100 - (intOf i).toNat)
  case atStart => exact ⟨0, 0, [], [], 0, by omega, rfl, by omega, Lib.hid (by simp), Lib.hid (by simp), HBK, B3⟩
  case round =>
    obtain ⟨k, n, G, X, t, hk, rfl, hn, HG, HX, HB, HW⟩ := hrel
    rename World => wo
    by_cases hin : k < len0 ∧ k < 100
    · obtain ⟨b, off, rfl, hbz, hcell⟩ := HIDX.out k hin.1
      have hcx := (HW.out.cell (p := ⟨b, off + k, none⟩) (by exact hbz)).trans (hcell k hin.1)
      have hk1 := hin.1
      have hk2 := hin.2
      clear hcell hin
      go_wp2_with (first
        | (go_at_call 8; refine (place_any _ 1073741824 (by decide) (by decide) _).mono ?_; rintro e w4 ⟨q, hq, rfl, hw4⟩; subst hw4; obtain ⟨p9, q9, q72, p72, q144, m, q432, r, p2, p4, ⟨f1, f2, f3⟩, ⟨f4, f5, f6⟩, ⟨f7, f8, f9, f10, f11⟩, ⟨f12, f13, f14⟩, ⟨f15, f16⟩, ⟨f17, f18⟩, f19, f20⟩ := num_facts q (by omega); clear hq)
        | (go_at_call 18; refine (name_calls _ (by omega) _).mono ?_; rintro e w5 ⟨nm, rfl, hnm, hw5⟩; subst hw5))
      go_loopw [9] (fun i2 wj => ∃ j : Nat, j ≤ 3 ∧ i2 = .int .i64 j ∧ Hid (NumW wo wj j)) (fun i _ => 3 - (intOf i).toNat)
      case atStart => exact ⟨0, by omega, rfl, Lib.hid (num_start wo _ nm _ hnm)⟩
      case round =>
        obtain ⟨j, hj, rfl, HNW⟩ := hrel
        obtain ⟨kd, nm2, cb, A, c, lv, hlj, hnm2, hns, c0, c1, c2, c3, g2, hrow, hbw, hz4⟩ := HNW.out
        subst hlj
        have HNS := Lib.hid hns
        have HROW := Lib.hid hrow
        have HBW := Lib.hid hbw
        clear hns hrow hbw HNW
        by_cases hjm : lv.length < 1 + m
        · have g3 : ((lv.length : Int) < 1 + (m : Int)) := by omega
          have e2 : IntKind.i64.wrap ((lv.length : Int) * 3) = (lv.length : Int) * 3 := IntWalk.i64_in _ (by omega)
          have e3 : IntKind.i64.wrap ((q432 : Int) + (lv.length : Int) * 3) = (q432 : Int) + (lv.length : Int) * 3 := IntWalk.i64_in _ (by omega)
          have e4 : (0 : Int) ≤ (q432 : Int) + (lv.length : Int) * 3 := by omega
          have c2a : ∀ (m : Nat) (o : Obj), ((wr.drewN m).alloc o).cell? ⟨wo.heap.size, 2, none⟩ = some (.slice A lv.length c) := fun m o => (cells_kept (Below.heap_alloc (wr.drewN m) o _ (by show wo.heap.size < wr.heap.size; omega))).trans c2
          go_wp2
          go_region_law (first
            | (go_simp; go_at_call 18; refine (name_calls _ e4 _).mono ?_; rintro e w6 ⟨nm3, rfl, hnm3, hw6⟩; subst hw6)
            | (go_simp; go_at_call 9; refine (dig_quiet r f16 _).mono ?_; rintro e w7 ⟨rfl, nd, rfl⟩)
            | (refine step_append_any _ (by rfl) _ _ _ (by rfl) (wo.heap.size + 1) 27 i0 _ 4 48 Tryd.underlying28 hi hz0 hz1 hz2 rfl (by omega) (.slice A lv.length c) lv.length (varsV lv) (by rfl) (by refine World.ownsRow.alloc ?_ _; exact own_move HROW.out (fun _ _ => rfl)) _ 1 1 (⟨nm3, dig r, 1 + (p2 : Int), 1 + (p4 : Int)⟩ : Vr).cells (by rfl) (src_block (heap_alloc_new _ _)) (Vr.cells_one _) (by unfold maxLen; omega) (by omega) (Nat.le_trans hz4 (size_al _ _ _)) ?_; intro v1 w8 hown hgr hat; obtain ⟨a4, c4, rfl⟩ := slice_of hown; obtain ⟨⟨d2, d3⟩, hN4⟩ := num_step rfl hnm2 HNS.out hnm3 c0 c1 c2 c3 g2 HROW.out HBW.out hz4 (below_drewN _ _ _) hgr hown; have HN4 := Lib.hid hN4; clear hown hgr hat hN4))
          all_goals
            go_wp2
            go_roundw
            case rel => exact ⟨lv.length + 1, by omega, by go_num, HN4⟩
            case measure => simp [intOf]; omega
        · have g3 : ¬ ((lv.length : Int) < 1 + (m : Int)) := by omega
          obtain ⟨K, hBK, hIK⟩ := num_ink HB.out HBW.out HROW.out
          have HBK2 := Lib.hid hBK
          have HIK := Lib.hid hIK
          clear hBK hIK
          have HN : Hid (Names lv) := Lib.hid (fun v hv => by have := HNS.out v hv; unfold maxLen; omega)
          go_wp2_with (go_at_call 17; refine (step_bk HBK2.out (by have := HX.out; omega) (by have := HG.out; omega) (by omega) kd nm2 (by unfold maxLen; omega) lv A c cb HIK.out (by omega) HN.out).mono ?_; rintro e w5 ⟨rfl, n2, G2, X2, t2, hB5, hn5, hG5, hX5, hb5⟩; have HB5 := Lib.hid (hB5.drop (K' := []) (by simp)); have HG5 := Lib.hid hG5; have HX5 := Lib.hid hX5; have HW5 := Lib.hid ((HW.out.trans (HBW.out.mono HW.out.size)).trans hb5); clear hB5 hG5 hX5 hb5)
          go_roundw
          case rel => exact ⟨k + 1, n2, G2, X2, t2, by omega, by go_num, by omega, Lib.hid (by have := HG5.out; have := HG.out; omega), Lib.hid (by have := HX5.out; have := HX.out; omega), HB5, HW5⟩
          case measure => simp [intOf]; omega
    · have hout : len0 ≤ k ∨ (k < len0 ∧ 100 ≤ k) := by omega
      rcases hout with h1 | ⟨h1, h2⟩
      all_goals
        go_wp2_with (go_at_call 14; refine (awake_calls _).mono ?_; rintro e w9 ⟨rfl, hB⟩; have HB9 := Lib.hid (HW.out.trans (hB.mono HW.out.size)); clear hB)
        go_ret
        exact ⟨rfl, HB9.out⟩
end Go.Proofs.YtjmaficiinhjpaaDoor.G
