/- wainwrightlaw17.step: a call to both sides; they do not part. -/
import Derived.Test.YtjmaficiinhjpaaDoorStoBoth
import Derived.Test.YtjmaficiinhjpaaDoorStoLaw0
import Derived.Deep.RegionHeld3
import Derived.Deep.DeepCutAuto
import Derived.Tactics2
import Derived.Deep.CutBlock
namespace Go.Proofs.YtjmaficiinhjpaaDoor.G
open Go.RowKit Go.Maps Go.WideMaps Go.Sort

/-- An instruction's box. -/
def opO (kd : Int) (nm : ByteArray) (A : Option Addr) (ln c : Nat) (call : Bool) : Obj := .cells #[.int .i64 kd, .string nm, .slice A ln c, .bool call] 42
/-- Both, alike; not much more than before. -/
def Mid (base : Nat) (w w' : World) (sb rb n : Nat) (G : List Vr) (X : List (List Vr × Bool)) (K : List (Nat × Obj)) : Prop :=
  ∃ n2 G2 X2 t2, Bk base w' sb rb n2 G2 X2 t2 G2 X2 t2 K ∧ n2 ≤ n + 1 ∧ G2.length ≤ G.length + 1 ∧ X2.length ≤ X.length + 1 ∧ Below base w w'
def StepR (base : Nat) (w w' : World) (sb rb n : Nat) (G : List Vr) (X : List (List Vr × Bool)) (K : List (Nat × Obj)) (e : Ending) : Prop := e = .returned (.bool true) ∧ Mid base w w' sb rb n G X K
theorem Bk.opc {base : Nat} {w : World} {sb rb n : Nat} {G G' : List Vr} {X X' : List (List Vr × Bool)} {t t' : Int} {K : List (Nat × Obj)} (h : Bk base w sb rb n G X t G' X' t' K) {b : Nat} {kd : Int} {nm : ByteArray} {A : Option Addr} {ln c : Nat} {call : Bool} (hm : (b, opO kd nm A ln c call) ∈ K) :
    w.cell? ⟨b, 0, none⟩ = some (.int .i64 kd) ∧ w.cell? ⟨b, 1, none⟩ = some (.string nm) ∧ w.cell? ⟨b, 2, none⟩ = some (.slice A ln c) ∧ w.cell? ⟨b, 3, none⟩ = some (.bool call) := by
  have hb := h.at hm
  exact ⟨cell_of_block (j := 0) hb, cell_of_block (j := 1) hb, cell_of_block (j := 2) hb, cell_of_block (j := 3) hb⟩
theorem row_vars {w : World} {s sb : Nat} {A : Option Addr} {c : Nat} {l : List Vr} (h : w.ownsRow s 27 4 (.slice A l.length c) l.length (varsV l)) (hs : sb < s) : VarsAt w A l ∧ ∀ b off, A = some ⟨b, off, none⟩ → b ≠ sb := by
  refine ⟨src_vars (Src.of_row h), fun b off e => ?_⟩
  subst e
  rcases h.2 with ⟨h0, _⟩ | ⟨g, cap, cur, he, hg, _⟩
  · cases h0
  · injection he with h1 _ _
    injection h1 with h1
    injection h1 with h1 _ _
    omega
/-- Cells that stay. -/
theorem cells_stay {w w' : World} (hb : Below w.heap.size w w') {p : Addr} {v : Value} (h : w.cell? p = some v) : w'.cell? p = some v := (hb.cell (World.block_lt_of_cell? w p h)).trans h
theorem same_S {w w' : World} (hb : Below w.heap.size w w') {p0 p1 p2 p3 p4 p5 p6 p7 p8 p9 : Addr} {v0 v1 v2 v3 v4 v5 v6 v7 v8 v9 : Value} (h0 : w.cell? p0 = some v0) (h1 : w.cell? p1 = some v1) (h2 : w.cell? p2 = some v2) (h3 : w.cell? p3 = some v3) (h4 : w.cell? p4 = some v4) (h5 : w.cell? p5 = some v5) (h6 : w.cell? p6 = some v6) (h7 : w.cell? p7 = some v7) (h8 : w.cell? p8 = some v8) (h9 : w.cell? p9 = some v9) :
    w'.cell? p0 = some v0 ∧ w'.cell? p1 = some v1 ∧ w'.cell? p2 = some v2 ∧ w'.cell? p3 = some v3 ∧ w'.cell? p4 = some v4 ∧ w'.cell? p5 = some v5 ∧ w'.cell? p6 = some v6 ∧ w'.cell? p7 = some v7 ∧ w'.cell? p8 = some v8 ∧ w'.cell? p9 = some v9 :=
  ⟨cells_stay hb h0, cells_stay hb h1, cells_stay hb h2, cells_stay hb h3, cells_stay hb h4, cells_stay hb h5, cells_stay hb h6, cells_stay hb h7, cells_stay hb h8, cells_stay hb h9⟩
theorem setG_lenS (l : List Vr) (v : Vr) : (setG l v).length ≤ l.length + 1 := setG_len l v

set_option maxHeartbeats 16000000 in
set_option maxRecDepth 100000 in
theorem step_bk {base : Nat} {w : World} {sb rb n : Nat} {G : List Vr} {X : List (List Vr × Bool)} {t : Int} {K : List (Nat × Obj)} (h : Bk base w sb rb n G X t G X t K) (hXl : X.length < 1000) (hGl : G.length < 1000) (hn : n < 1000000)
    (kd : Int) (nm : ByteArray) (hnm : nm.size ≤ maxLen) (l : List Vr) (A : Option Addr) (c : Nat) (call : Bool) (hL : InK w K A l) (hl : l.length ≤ 1000) (hN : Names l) :
    Calls Tryd.prog 17 #[.pointer (some ⟨sb, 0, none⟩), .pointer (some ⟨rb, 0, none⟩), .agg #[.int .i64 kd, .string nm, .slice A l.length c, .bool call]] w (fun e w' => StepR base w w' sb rb n G X K e) := by
  obtain ⟨i0, hi, hz0, hz1, hz2⟩ := info_parts info_var
  have h0 := h.keep (opO kd nm A l.length c call)
  have hsz := h.size
  have HB0 := Lib.hid ((Below.refl base w).alloc hsz (opO kd nm A l.length c call))
  obtain ⟨o0, o1, o2, o3⟩ := h0.opc (b := w.heap.size) (kd := kd) (nm := nm) (A := A) (ln := l.length) (c := c) (call := call) (by simp)
  have HK0 := Lib.hid h.stay
  have HL := Lib.hid hL
  have H0 := Lib.hid h0
  have HNM := Lib.hid hN
  unfold opO at o0 o1 o2 o3
  clear h h0 hL hN
  obtain ⟨w0, hw0⟩ : ∃ w0, w0 = w.alloc (.cells #[.int .i64 kd, .string nm, .slice A l.length c, .bool call] 42) := ⟨_, rfl⟩
  have oo0 := o0
  rw [← hw0] at o0 o1 o2 o3
  have hw1 : w0 = w.alloc (opO kd nm A l.length c call) := hw0
  rw [← hw1] at H0 HB0
  clear hw1
  go_enter Tryd.func17, Tryd.ntmps17
  go_upto_block 0 with (go_at_call 8; refine (place_any kd 9 (by decide) (by decide) _).mono ?_; rintro e w1 ⟨q, hq, rfl, hw⟩; subst hw; rw [← hw0]; clear hw0 oo0)
  have hq5 : (q : Int) < 4 ∨ (q : Int) = 4 ∨ ((4 : Int) < q ∧ (q : Int) < 7) ∨ (q : Int) = 7 ∨ ((7 : Int) < q) := by omega
  have HQ5 := Lib.hid hq5
  clear hq5
  go_cut [] (fun wx => Hid (Mid base w wx sb rb n G X ((w.heap.size, opO kd nm A l.length c call) :: K)))
  case first =>
    have HL0 : Hid (InK w0 K A l) := Lib.hid (HL.out.kept HK0.out (fun p hp => H0.out.stay p (List.mem_cons_of_mem _ hp)))
    rcases HQ5.out with hq1 | hq1 | ⟨hq1, hq2⟩ | hq1 | hq1
    · cases l with
      | nil =>
        go_wp2
        go_meet
        exact Lib.hid ⟨n, G, X, t, H0.out, by omega, by omega, by omega, HB0.out⟩
      | cons v l2 =>
        obtain ⟨b, off, rfl, hz, hc⟩ := HL0.out.1 (by simp)
        obtain ⟨c0, c1, c2, c3⟩ := hc 0 v rfl
        simp only [Nat.zero_mul, Nat.add_zero] at c0 c1 c2 c3
        have HV := Lib.hid (HNM.out v (by simp))
        have HG := Lib.hid (setG_lenS G v)
        clear hc
        go_wp2_with (first
          | (go_at_call 21; refine (Set_bk H0.out v HV.out (by unfold maxLen; omega)).mono ?_; rintro e w2 ⟨rfl, hB, hb⟩; have H1 := Lib.hid hB; have B1 := Lib.hid hb; obtain ⟨p0, p1, p2, p3⟩ := hB.opc (b := w.heap.size) (kd := kd) (nm := nm) (A := some ⟨b, off, none⟩) (ln := (v :: l2).length) (c := c) (call := call) (by simp); obtain ⟨_, _, he, hz2, hc⟩ := (HL0.out.kept (fun p hp => H0.out.stay p (List.mem_cons_of_mem _ hp)) (fun p hp => hB.stay p (List.mem_cons_of_mem _ hp))).1 (by simp); cases he; obtain ⟨d0, d1, d2, d3⟩ := hc 0 v rfl; simp only [Nat.zero_mul, Nat.add_zero] at d0 d1 d2 d3; clear hB hb hc)
          | (go_at_call 26; refine (rSet_bk H1.out H0.out.rises hGl v).mono ?_; rintro e w3 ⟨rfl, hB, hb⟩; have H2 := Lib.hid hB; have B2 := Lib.hid hb; clear hB hb))
        go_meet
        exact Lib.hid ⟨n + 1, setG G v, X, _, H2.out, by omega, HG.out, by omega, (HB0.out.trans B1.out).trans B2.out⟩
    · have g1 : ¬ ((q : Int) < 4) := by omega
      have g2 : ((q : Int) == 4) = true := by simp; omega
      clear hq1
      have HG := Lib.hid (List.length_filter_le (fun v : Vr => decide (v.name ≠ nm)) G)
      go_wp2_with (first
        | (go_at_call 20; refine (Drop_bk H0.out nm hnm).mono ?_; rintro e w2 ⟨rfl, hB, hb⟩; have H1 := Lib.hid hB; have B1 := Lib.hid hb; obtain ⟨p0, p1, p2, p3⟩ := hB.opc (b := w.heap.size) (kd := kd) (nm := nm) (A := A) (ln := l.length) (c := c) (call := call) (by simp); clear hB hb)
        | (go_at_call 27; refine (rDrop_bk H1.out H0.out.rises nm).mono ?_; rintro e w3 ⟨rfl, hB, hb⟩; have H2 := Lib.hid hB; have B2 := Lib.hid hb; clear hB hb))
      go_meet
      exact Lib.hid ⟨n, dropG G nm, X, _, H2.out, by omega, by have := HG.out; unfold dropG; omega, by omega, (HB0.out.trans B1.out).trans B2.out⟩
    · have g1 : ¬ ((q : Int) < 4) := by omega
      have g2 : ((q : Int) == 4) = false := by simp; omega
      have HSL := Lib.hid (vars_src HL0.out.1)
      have hsb := H0.out.sbz
      go_wp2
      go_region_law (first
        | (refine step_append_any _ (by rfl) _ _ _ (by rfl) w0.heap.size 27 i0 _ 4 48 Tryd.underlying28 hi hz0 hz1 hz2 rfl (by omega) (.slice none 0 0) 0 [] (by rfl) (World.ownsRow_nil _ _ _ _) _ _ _ (varsV l) (by rfl) (HSL.out.later (Below.drew (Below.refl _ w0))) (varsV_one _) (by unfold maxLen; omega) (by omega) (Nat.le_refl _) ?_; intro v1 w2 hown1 hgr1 hat1; rw [Nat.zero_add, List.nil_append] at hown1; obtain ⟨a1, k1, rfl⟩ := slice_of hown1; have BA : Hid (Below w0.heap.size w0 w2) := Lib.hid ((Below.drew (Below.refl w0.heap.size w0)).grown hgr1 (Nat.le_refl _) (fun j hj => by cases hj)); have H0A := Lib.hid (H0.out.later BA.out); obtain ⟨p0, p1, p2, p3⟩ := H0A.out.opc (b := w.heap.size) (kd := kd) (nm := nm) (A := A) (ln := l.length) (c := c) (call := call) (by simp); have RW := Lib.hid (row_vars hown1 hsb); clear hown1 hgr1 hat1)
        | (go_simp; go_at_call 10; refine (Push_bk H0A.out hXl l a1 k1 call RW.out.1 RW.out.2 (by omega) HNM.out).mono ?_; rintro e w3 ⟨rfl, hB, hb⟩; have H1 := Lib.hid hB; have B1 := Lib.hid ((HB0.out.trans (BA.out.mono H0.out.size)).trans hb); clear hB hb))
      all_goals
        obtain ⟨d0, d1, d2, d3⟩ := H1.out.opc (b := w.heap.size) (kd := kd) (nm := nm) (A := A) (ln := l.length) (c := c) (call := call) (by simp)
        have HLK := Lib.hid (HL0.out.kept (fun p hp => H0.out.stay p (List.mem_cons_of_mem _ hp)) (fun p hp => H1.out.stay p (List.mem_cons_of_mem _ hp)))
        have HNR : Hid (0 < l.length → ∀ b off, A = some ⟨b, off, none⟩ → b ≠ rb) := Lib.hid (fun hp b off e => by
          obtain ⟨o, ho⟩ := HLK.out.2 hp _ e
          exact H1.out.knr _ (List.mem_cons_of_mem _ ho))
        go_wp2_with (go_at_call 28; refine (rPush_bk H1.out hXl l A c call HLK.out.1 HNR.out hl).mono ?_; rintro e w4 ⟨rfl, hB, hb⟩; have H2 := Lib.hid hB; have B2 := Lib.hid hb; clear hB hb)
        go_meet
        exact Lib.hid ⟨n, G, X ++ [(l, call)], _, H2.out, by omega, by omega, by simp, B1.out.trans B2.out⟩
    · have g1 : ¬ ((q : Int) < 4) := by omega
      have g2 : ((q : Int) == 4) = false := by simp; omega
      have g3 : ¬ ((q : Int) < 7) := by omega
      have g4 : ((q : Int) == 7) = true := by simp; omega
      clear hq1
      have HX := Lib.hid (show X.dropLast.length ≤ X.length by simp)
      go_wp2_with (first
        | (go_at_call 12; refine (Pop_bk H0.out).mono ?_; rintro e w2 ⟨rfl, hB, hb⟩; have H1 := Lib.hid hB; have B1 := Lib.hid hb; clear hB hb)
        | (go_at_call 29; refine (rPop_bk H1.out).mono ?_; rintro e w3 ⟨rfl, hB, hb⟩; have H2 := Lib.hid hB; have B2 := Lib.hid hb; clear hB hb))
      go_meet
      exact Lib.hid ⟨n, G, X.dropLast, _, H2.out, by omega, by omega, by have := HX.out; omega, (HB0.out.trans B1.out).trans B2.out⟩
    · have g1 : ¬ ((q : Int) < 4) := by omega
      have g2 : ((q : Int) == 4) = false := by simp; omega
      have g3 : ¬ ((q : Int) < 7) := by omega
      have g4 : ((q : Int) == 7) = false := by simp; omega
      go_wp2
      go_meet
      exact Lib.hid ⟨n, G, X, t, H0.out, by omega, by omega, by omega, HB0.out⟩
  case rest =>
    obtain ⟨n2, G2, X2, t2, hB, hn2, hG2, hX2, hb⟩ := hcut.out
    have HB := Lib.hid hB
    have HBB := Lib.hid hb
    obtain ⟨u, k, hg⟩ : ∃ u k, getX G2 X2 nm = (u, k) := ⟨_, _, rfl⟩
    have HG := Lib.hid hg
    obtain ⟨p0, p1, p2, p3⟩ := hB.opc (b := w.heap.size) (kd := kd) (nm := nm) (A := A) (ln := l.length) (c := c) (call := call) (by simp)
    clear hcut hB hb hg o0 o1 o2 o3
    go_wp2_with (first
      | (go_at_call 11; refine (Get_bk HB.out nm hnm HG.out).mono ?_; rintro e wg ⟨rfl, hB, hb⟩; have HB1 := Lib.hid (hB.keep (boxO u)); have HW1 := Lib.hid (HBB.out.trans ((hb.mono HB.out.size).alloc (Nat.le_trans HB.out.size hb.size) (boxO u))); obtain ⟨q0, q1, q2, q3⟩ := hB.opc (b := w.heap.size) (kd := kd) (nm := nm) (A := A) (ln := l.length) (c := c) (call := call) (by simp); have zg := lt_heap (hB.at (b := w.heap.size) (o := opO kd nm A l.length c call) (by simp)); clear hB hb)
      | (go_at_call 30; refine (rGet_bk HB1.out nm hnm HG.out).mono ?_; rintro e wr2 ⟨rfl, hB, hb⟩; have HB2 := Lib.hid (hB.keep (boxO u)); have HW2 := Lib.hid (HW1.out.trans ((hb.mono HB1.out.size).alloc (Nat.le_trans HB1.out.size hb.size) (boxO u))); clear hB hb))
    unfold boxO at HB2 HW2
    have HS5 : Hid (wr2.heap.size < (wr2.alloc (.cells #[.string u.name, .string u.val, .int .i64 u.fl, .int .i64 u.og] 27)).heap.size) := Lib.hid (by simp)
    generalize wr2.alloc (.cells #[.string u.name, .string u.val, .int .i64 u.fl, .int .i64 u.og] 27) = w5 at HB2 HW2 HS5 ⊢
    obtain ⟨gA, gc, r0, r3, hgv⟩ := HB2.out.rcells
    have HGV := Lib.hid hgv
    obtain ⟨a0, a1, a2, a3⟩ := HB2.out.box (b := wg.heap.size) (v := u) (by simp [boxO])
    obtain ⟨b0, b1, b2, b3⟩ := HB2.out.box (b := wr2.heap.size) (v := u) (by simp [boxO])
    have hG1 : G2.length ≤ 100000 := by omega
    clear p0 p1 p2 p3 q0 q1 q2 q3 zg hgv HB HB1 HBB HW1
    go_region_held3 (fun w' => w'.cell? ⟨wg.heap.size, 0, none⟩ = some (.string u.name) ∧ w'.cell? ⟨wg.heap.size, 1, none⟩ = some (.string u.val) ∧ w'.cell? ⟨wg.heap.size, 2, none⟩ = some (.int .i64 u.fl) ∧ w'.cell? ⟨wg.heap.size, 3, none⟩ = some (.int .i64 u.og) ∧ w'.cell? ⟨wr2.heap.size, 0, none⟩ = some (.string u.name) ∧ w'.cell? ⟨wr2.heap.size, 1, none⟩ = some (.string u.val) ∧ w'.cell? ⟨wr2.heap.size, 2, none⟩ = some (.int .i64 u.fl) ∧ w'.cell? ⟨wr2.heap.size, 3, none⟩ = some (.int .i64 u.og) ∧ w'.cell? ⟨rb, 0, none⟩ = some (.slice gA G2.length gc) ∧ w'.cell? ⟨rb, 3, none⟩ = some (.int .i64 t2))
      (first | assumption | exact ⟨a0, a1, a2, a3, b0, b1, b2, b3, r0, r3⟩ | exact KS.out)
      (first
        | (go_at_call 13; refine (Turns_bk (HB2.out.later (Below.drew (Below.refl _ w5)))).mono ?_; rintro e w' ⟨rfl, rfl⟩)
        | (go_at_call 22; refine (All_bk (HB2.out.later (Below.drew (Below.refl _ w5))) hG1).mono ?_; rintro e w6 ⟨A6, c6, rfl, hv, hB6, hb6⟩; have HB6 := Lib.hid hB6; have HV6 := Lib.hid hv; have BB6 : Hid (Below w5.heap.size w5 w6) := Lib.hid ((Below.drew (Below.refl _ w5)).trans hb6); have KS := Lib.hid (same_S BB6.out a0 a1 a2 a3 b0 b1 b2 b3 r0 r3); clear hv hB6 hb6)
        | (go_at_call 31; refine (same_calls G2 A6 gA c6 gc _ HV6.out (HGV.out.below BB6.out) (by omega)).mono ?_; rintro e w7 ⟨rfl, hb7⟩; have BB7 := Lib.hid hb7; have KS := Lib.hid (same_S hb7 KS.out.1 KS.out.2.1 KS.out.2.2.1 KS.out.2.2.2.1 KS.out.2.2.2.2.1 KS.out.2.2.2.2.2.1 KS.out.2.2.2.2.2.2.1 KS.out.2.2.2.2.2.2.2.1 KS.out.2.2.2.2.2.2.2.2.1 KS.out.2.2.2.2.2.2.2.2.2); clear hb7))
    all_goals
      go_wp2
      go_ret
      exact ⟨rfl, n2, G2, X2, t2, (HB6.out.later BB7.out).drop (fun p hp => by simp [hp]), hn2, hG2, hX2, HW2.out.trans ((BB6.out.mono HB2.out.size).trans (BB7.out.mono HB6.out.size))⟩
end Go.Proofs.YtjmaficiinhjpaaDoor.G
