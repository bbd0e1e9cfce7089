/- the reference's store: SameVars; what stands in memory (RefV); Get, Pop. -/
import Derived.Test.YtjmaficiinhjpaaDoorStoRef
namespace Go.Proofs.YtjmaficiinhjpaaDoor.G
open Go.RowKit Go.Maps Go.WideMaps Go.Sort

set_option maxHeartbeats 4000000 in
set_option maxRecDepth 100000 in
theorem same_calls (l : List Vr) (A1 A2 : Option Addr) (c1 c2 : Nat) (w : World) (h1 : VarsAt w A1 l) (h2 : VarsAt w A2 l) (hl : l.length ≤ 1000000) :
    Calls Tryd.prog 31 #[.slice A1 l.length c1, .slice A2 l.length c2] w fun e w' => e = .returned (.bool true) ∧ Below w.heap.size w w' := by
  have H1 := Lib.hid h1
  have H2 := Lib.hid h2
  clear h1 h2
  go_enter Tryd.func31, Tryd.ntmps31
  go_wp2
  obtain ⟨wo, hwo⟩ : ∃ wo : World, wo = w := ⟨_, rfl⟩
  rw [← hwo]
  have HWO := Lib.hid hwo
  clear hwo
  go_loopw [5] (fun i wi => ∃ (k q : Nat), k ≤ l.length ∧ i = .int .i64 k ∧ wi = wo.drewN q) (fun i _ => l.length - (intOf i).toNat)
  case atStart => exact ⟨0, 0, Nat.zero_le _, rfl, rfl⟩
  case round =>
    obtain ⟨k, q, hk, rfl, rfl⟩ := hrel
    obtain ⟨wz, hwz⟩ : ∃ wz : World, wz = wo.drewN q := ⟨_, rfl⟩
    rw [← hwz]
    have hcz : ∀ p, wz.cell? p = w.cell? p := fun p => by rw [hwz, HWO.out]; rfl
    have HCZ := Lib.hid hcz
    have HWZ := Lib.hid hwz
    clear hwz hcz
    by_cases hlt : k < l.length
    · obtain ⟨v, hv⟩ : ∃ v, l[k]? = some v := ⟨_, List.getElem?_eq_getElem hlt⟩
      obtain ⟨b1, off1, rfl, hz1, hc1⟩ := H1.out (by omega)
      obtain ⟨b2, off2, rfl, hz2, hc2⟩ := H2.out (by omega)
      obtain ⟨d0, d1, d2, d3⟩ := hc1 k v hv
      obtain ⟨e0, e1, e2, e3⟩ := hc2 k v hv
      have d0 := (HCZ.out _).trans d0
      have d1 := (HCZ.out _).trans d1
      have d2 := (HCZ.out _).trans d2
      have d3 := (HCZ.out _).trans d3
      have e0 := (HCZ.out _).trans e0
      have e1 := (HCZ.out _).trans e1
      have e2 := (HCZ.out _).trans e2
      have e3 := (HCZ.out _).trans e3
      have j0 : (0 : Int) ≤ (k : Int) := Int.natCast_nonneg _
      have j1 : (k : Int) < (l.length : Int) := by omega
      clear hc1 hc2 hv
      go_wp2
      go_quiet (fail)
      go_wp2
      go_roundw
      case rel => exact ⟨k + 1, q + nq, by omega, by go_num, by rw [HWZ.out, World.drewN_drewN]⟩
      case measure => simp [intOf]; omega
    · go_wp2
      go_ret
      refine ⟨rfl, ?_⟩
      rw [HWZ.out, HWO.out]
      exact ⟨rfl, rfl, rfl, Nat.le_refl _, fun _ _ => rfl⟩

/-! ### what stands in memory -/
/-- A frame of the reference's: its slice's address and room, its variables, whether it is a call's. -/
abbrev Rf := Option Addr × Nat × List Vr × Bool
def rfV (X : List Rf) : List Value := X.map (fun f => .slice f.1 f.2.2.1.length f.2.1)
def rfC (X : List Rf) : List Value := X.map (fun f => .bool f.2.2.2)
structure RefV (base : Nat) (w : World) (rb : Nat) (B : Nat → Prop) (G : List Vr) (X : List Rf) (turns : Int) (gA fA cA : Option Addr) (gc fc cc : Nat) : Prop where
  c0 : w.cell? ⟨rb, 0, none⟩ = some (.slice gA G.length gc)
  c1 : w.cell? ⟨rb, 1, none⟩ = some (.slice fA X.length fc)
  c2 : w.cell? ⟨rb, 2, none⟩ = some (.slice cA X.length cc)
  c3 : w.cell? ⟨rb, 3, none⟩ = some (.int .i64 turns)
  f0 : w.frozen? ⟨rb, 0, none⟩ = false
  f1 : w.frozen? ⟨rb, 1, none⟩ = false
  f2 : w.frozen? ⟨rb, 2, none⟩ = false
  f3 : w.frozen? ⟨rb, 3, none⟩ = false
  rg : Rd w B gA G.length 4 (varsV G)
  rf : Rd w B fA X.length 1 (rfV X)
  rc : Rd w B cA X.length 1 (rfC X)
  fr : ∀ f ∈ X, Rd w B f.1 f.2.2.1.length 4 (varsV f.2.2.1) ∧ f.2.2.1.length ≤ 1000
  hgc : G.length ≤ gc ∧ gc ≤ maxLen
  hfc : X.length ≤ fc ∧ fc ≤ maxLen
  hcc : X.length ≤ cc ∧ cc ≤ maxLen
  hrb : base ≤ rb
  hrz : rb < w.heap.size
  hB : ¬ B rb
  hBz : ∀ k, B k → base ≤ k ∧ k < w.heap.size
  len : X.length ≤ 1000
  leng : G.length ≤ 1000
def RefS (base : Nat) (w : World) (rb : Nat) (B : Nat → Prop) (G : List Vr) (X : List Rf) (turns : Int) : Prop := ∃ gA fA cA gc fc cc, RefV base w rb B G X turns gA fA cA gc fc cc
theorem RefV.kept {base : Nat} {w w' : World} {rb : Nat} {B : Nat → Prop} {G : List Vr} {X : List Rf} {turns : Int} {gA fA cA : Option Addr} {gc fc cc : Nat} (h : RefV base w rb B G X turns gA fA cA gc fc cc) {P : Nat → Prop} (hA : Apart P w w') (hP : ∀ k, P k → k ≠ rb ∧ ¬ B k) : RefV base w' rb B G X turns gA fA cA gc fc cc := by
  have hs := hA.block rb h.hrz (fun hk => (hP rb hk).1 rfl)
  have hB := fun k hk => (hP k hk).2
  exact ⟨(cells_kept hs).trans h.c0, (cells_kept hs).trans h.c1, (cells_kept hs).trans h.c2, (cells_kept hs).trans h.c3, (frozen_kept hs).trans h.f0, (frozen_kept hs).trans h.f1, (frozen_kept hs).trans h.f2, (frozen_kept hs).trans h.f3,
    h.rg.kept hA hB, h.rf.kept hA hB, h.rc.kept hA hB, fun f hf => ⟨(h.fr f hf).1.kept hA hB, (h.fr f hf).2⟩, h.hgc, h.hfc, h.hcc, h.hrb, Nat.lt_of_lt_of_le h.hrz hA.size, h.hB, fun k hk => ⟨(h.hBz k hk).1, Nat.lt_of_lt_of_le (h.hBz k hk).2 hA.size⟩, h.len, h.leng⟩
theorem RefV.later {base : Nat} {w w' : World} {rb : Nat} {B : Nat → Prop} {G : List Vr} {X : List Rf} {turns : Int} {gA fA cA : Option Addr} {gc fc cc : Nat} (h : RefV base w rb B G X turns gA fA cA gc fc cc) (hb : Below w.heap.size w w') : RefV base w' rb B G X turns gA fA cA gc fc cc :=
  h.kept (apart_below hb) (fun _ h => h.elim)

/-! ### Get -/
theorem rf_at {w : World} {B : Nat → Prop} {A : Option Addr} {X : List Rf} (h : Rd w B A X.length 1 (rfV X)) {k : Nat} {f : Rf} (hf : X[k]? = some f) : ∃ b off, A = some ⟨b, off, none⟩ ∧ b < w.heap.size ∧ w.cell? ⟨b, off + k, none⟩ = some (.slice f.1 f.2.2.1.length f.2.1) := by
  have hk := (List.getElem?_eq_some_iff.mp hf).1
  obtain ⟨b, off, rfl, hb, hc⟩ := h.1.2 (by omega)
  exact ⟨b, off, rfl, hb, hc k _ (by unfold rfV; rw [List.getElem?_map, hf]; rfl)⟩
theorem rc_at {w : World} {B : Nat → Prop} {A : Option Addr} {X : List Rf} (h : Rd w B A X.length 1 (rfC X)) {k : Nat} {f : Rf} (hf : X[k]? = some f) : ∃ b off, A = some ⟨b, off, none⟩ ∧ b < w.heap.size ∧ w.cell? ⟨b, off + k, none⟩ = some (.bool f.2.2.2) := by
  have hk := (List.getElem?_eq_some_iff.mp hf).1
  obtain ⟨b, off, rfl, hb, hc⟩ := h.1.2 (by omega)
  exact ⟨b, off, rfl, hb, hc k _ (by unfold rfC; rw [List.getElem?_map, hf]; rfl)⟩
def RGetR (w w' : World) (u : Vr × Bool) (e : Ending) : Prop := e = .returned (.tuple #[.agg #[.string u.1.name, .string u.1.val, .int .i64 u.1.fl, .int .i64 u.1.og], .bool u.2]) ∧ Below w.heap.size w w'
theorem atI_none {l : List Vr} {x : ByteArray} (h : atR l x = none) : atI l x = -1 := by unfold atI; rw [h]
theorem atI_some {l : List Vr} {x : ByteArray} {k : Nat} (h : atR l x = some k) : atI l x = (k : Int) := by unfold atI; rw [h]

theorem below_put4 (w : World) (o : Obj) (a b c d : Value) : Below w.heap.size w (((((w.alloc o).setCell ⟨w.heap.size, 0, none⟩ a).setCell ⟨w.heap.size, 1, none⟩ b).setCell ⟨w.heap.size, 2, none⟩ c).setCell ⟨w.heap.size, 3, none⟩ d) :=
  (((((Below.refl _ _).alloc (Nat.le_refl _) o).setCell (Nat.le_refl _) a).setCell (Nat.le_refl _) b).setCell (Nat.le_refl _) c).setCell (Nat.le_refl _) d
set_option maxHeartbeats 8000000 in
set_option maxRecDepth 100000 in
theorem RGet.calls {base : Nat} {w : World} {rb : Nat} {B : Nat → Prop} {G : List Vr} {X : List Rf} {turns : Int} {gA fA cA : Option Addr} {gc fc cc : Nat} (h : RefV base w rb B G X turns gA fA cA gc fc cc) (x : ByteArray) (hx : x.size ≤ maxLen) :
    Calls Tryd.prog 30 #[.pointer (some ⟨rb, 0, none⟩), .string x] w (fun e w' => RGetR w w' (getX G (X.map (fun f => f.2.2)) x) e) := by
  have h' := h.later ((Below.refl _ w).alloc (Nat.le_refl _) (.cells #[.string ⟨#[]⟩, .string ⟨#[]⟩, .int .i64 0, .int .i64 0] 27))
  have hrz := h.hrz
  have hlen := h.len
  have hleng := h.leng
  have cc1 := h'.c1
  obtain ⟨w1, hw1⟩ : ∃ w1, w1 = w.alloc (.cells #[.string ⟨#[]⟩, .string ⟨#[]⟩, .int .i64 0, .int .i64 0] 27) := ⟨_, rfl⟩
  rw [← hw1] at h'
  have hb := heap_alloc_new w (.cells #[.string ⟨#[]⟩, .string ⟨#[]⟩, .int .i64 0, .int .i64 0] 27)
  rw [← hw1] at hb
  have b0 := cell_of_block (j := 0) hb
  have b1 := cell_of_block (j := 1) hb
  have b2 := cell_of_block (j := 2) hb
  have b3 := cell_of_block (j := 3) hb
  simp only [List.getElem?_toArray, List.getElem?_cons_zero, List.getElem?_cons_succ] at b0 b1 b2 b3
  have g0 := frozen_of_block (j := 0) hb
  have g1 := frozen_of_block (j := 1) hb
  have g2 := frozen_of_block (j := 2) hb
  have g3 := frozen_of_block (j := 3) hb
  have c0 := h'.c0
  have c1 := h'.c1
  have c2 := h'.c2
  have HW := Lib.hid hw1
  have H := Lib.hid h'
  have HZ : Hid (∃ u b, (lookL G x).getD zeroV = u ∧ (lookL G x).isSome = b) := Lib.hid ⟨_, _, rfl, rfl⟩
  have HXX : Hid (downX x ((X.take X.length).map (fun f => f.2.2)).reverse = downX x (X.map (fun f => f.2.2)).reverse) := Lib.hid (by rw [List.take_length])
  have hS1 : w1.heap.size = w.heap.size + 1 := by rw [hw1]; simp
  have HS1 := Lib.hid hS1
  clear h h' hb hS1
  go_enter Tryd.func30, Tryd.ntmps30
  go_wp2
  rw [← hw1]
  clear hw1 cc1
  go_loop [6] (fun i => ∃ m : Nat, m ≤ X.length ∧ i = .int .i64 ((m : Int) - 1) ∧ Hid (downX x ((X.take m).map (fun f => f.2.2)).reverse = downX x (X.map (fun f => f.2.2)).reverse)) (fun i => (intOf i + 1).toNat)
  case atStart => exact ⟨X.length, Nat.le_refl _, rfl, HXX⟩
  case round =>
    obtain ⟨m, hm, rfl, HM⟩ := hrel
    cases m with
    | zero =>
      have hD : downX x (X.map (fun f => f.2.2)).reverse = none := by rw [← HM.out, List.take_zero]; rfl
      have HD := Lib.hid hD
      clear hD
      have hat := atR_look G x
      cases e : atR G x with
      | none =>
        have he := atI_none e
        have HL := Lib.hid (hat.2 e)
        clear hat e
        go_wp2_with (go_at_call 37; refine (at_calls G gA gc x _ (src_vars H.out.rg.1) (by omega)).mono ?_; rintro e w' ⟨rfl, rfl⟩)
        refine bodyPost_ret (v := .tuple #[.agg #[.string ⟨#[]⟩, .string ⟨#[]⟩, .int .i64 0, .int .i64 0], .bool false]) (by simp [results, Tryd.results30, go_sem, b0, b1, b2, b3]) rfl ?_
        unfold getX
        rw [HD.out, HL.out]
        exact ⟨rfl, by rw [HW.out]; exact below_put4 _ _ _ _ _ _⟩
      | some k =>
        obtain ⟨v, hv, hl⟩ := hat.1 k e
        have he := atI_some e
        have HL := Lib.hid hl
        have hkl := (List.getElem?_eq_some_iff.mp hv).1
        obtain ⟨gb, goff, rfl, hgz, hgc⟩ := src_vars H.out.rg.1 (by omega)
        obtain ⟨d0, d1, d2, d3⟩ := hgc k v hv
        clear hat e hv hl hgc
        go_wp2_with (go_at_call 37; refine (at_calls G (some ⟨gb, goff, none⟩) gc x _ (src_vars H.out.rg.1) (by omega)).mono ?_; rintro e w' ⟨rfl, rfl⟩)
        refine bodyPost_ret (v := .tuple #[.agg #[.string v.name, .string v.val, .int .i64 v.fl, .int .i64 v.og], .bool true]) (by simp [results, Tryd.results30, go_sem, b0, b1, b2, b3]) rfl ?_
        unfold getX
        rw [HD.out, HL.out]
        exact ⟨rfl, by rw [HW.out]; exact below_put4 _ _ _ _ _ _⟩
    | succ m =>
      obtain ⟨⟨A, c, l, call⟩, hf⟩ : ∃ f, X[m]? = some f := ⟨_, List.getElem?_eq_getElem (by omega)⟩
      have hi : (((m + 1 : Nat) : Int) - 1) = (m : Int) := by omega
      rw [hi]
      have hge : decide ((0 : Int) ≤ (m : Int)) = true := by simp
      have hge2 : (0 : Int) ≤ (m : Int) := by omega
      have hlt1 : (m : Int) < (X.length : Int) := by omega
      obtain ⟨fb, foff, rfl, hfz, hfc⟩ := rf_at H.out.rf hf
      obtain ⟨cb, coff, rfl, hcz, hcc⟩ := rc_at H.out.rc hf
      obtain ⟨hfr, hfl⟩ := H.out.fr _ (List.mem_of_getElem? hf)
      simp only at hfc hcc hfr hfl
      have HFR := Lib.hid hfr
      have HS := Lib.hid (show downX x ((X.take (m + 1)).map (fun f => f.2.2)).reverse = match lookL l x with
        | some v => some (v, true)
        | none => if call = true ∧ digitsB x = true then some (zeroV, false) else downX x ((X.take m).map (fun f => f.2.2)).reverse from by
          obtain ⟨h1, h2⟩ := List.getElem?_eq_some_iff.mp hf
          rw [List.take_succ_eq_append_getElem h1, h2, List.map_append, List.map_cons, List.map_nil, downX_snoc]; rfl)
      clear hf hfr
      have hat := atR_look l x
      cases e : atR l x with
      | some k =>
        obtain ⟨v, hv, hl⟩ := hat.1 k e
        have he := atI_some e
        have HL := Lib.hid hl
        have hkl := (List.getElem?_eq_some_iff.mp hv).1
        obtain ⟨gb, goff, rfl, hgz, hgc⟩ := src_vars HFR.out.1 (by omega)
        obtain ⟨d0, d1, d2, d3⟩ := hgc k v hv
        clear hat e hv hl hgc
        go_wp2_with (go_at_call 37; refine (at_calls l (some ⟨gb, goff, none⟩) c x _ (src_vars HFR.out.1) (by omega)).mono ?_; rintro e w' ⟨rfl, rfl⟩)
        refine bodyPost_ret (v := .tuple #[.agg #[.string v.name, .string v.val, .int .i64 v.fl, .int .i64 v.og], .bool true]) (by simp [results, Tryd.results30, go_sem, b0, b1, b2, b3]) rfl ?_
        unfold getX
        rw [← HM.out, HS.out, HL.out]
        exact ⟨rfl, by rw [HW.out]; exact below_put4 _ _ _ _ _ _⟩
      | none =>
        have he := atI_none e
        have HL := Lib.hid (hat.2 e)
        clear hat e
        cases call with
        | false =>
          go_wp2_with (go_at_call 37; refine (at_calls l A c x _ (src_vars HFR.out.1) (by omega)).mono ?_; rintro e w' ⟨rfl, rfl⟩)
          go_round
          case rel => exact ⟨m, by omega, rfl, Lib.hid (by rw [← HM.out, HS.out, HL.out]; simp)⟩
          case measure => simp [intOf]
        | true =>
          obtain ⟨d, hd⟩ : ∃ d, d = digitsB x := ⟨_, rfl⟩
          have HDG := Lib.hid hd
          have hcd : ∀ w, Calls Tryd.prog 38 #[.string x] w fun e w' => e = .returned (.bool d) ∧ w = w' := fun w => by rw [hd]; exact rdigits_calls x w hx
          have HCD := Lib.hid hcd
          clear hd hcd
          cases d with
          | false =>
            go_wp2_with (first
              | (go_at_call 37; refine (at_calls l A c x _ (src_vars HFR.out.1) (by omega)).mono ?_; rintro e w' ⟨rfl, rfl⟩)
              | (go_at_call 38; refine (HCD.out _).mono ?_; rintro e w' ⟨rfl, rfl⟩))
            go_round
            case rel => exact ⟨m, by omega, rfl, Lib.hid (by rw [← HM.out, HS.out, HL.out, ← HDG.out]; simp)⟩
            case measure => simp [intOf]
          | true =>
            go_wp2_with (first
              | (go_at_call 37; refine (at_calls l A c x _ (src_vars HFR.out.1) (by omega)).mono ?_; rintro e w' ⟨rfl, rfl⟩)
              | (go_at_call 38; refine (HCD.out _).mono ?_; rintro e w' ⟨rfl, rfl⟩))
            refine bodyPost_ret (v := .tuple #[.agg #[.string ⟨#[]⟩, .string ⟨#[]⟩, .int .i64 0, .int .i64 0], .bool false]) (by simp [results, Tryd.results30, go_sem, b0, b1, b2, b3]) rfl ?_
            unfold getX
            rw [← HM.out, HS.out, HL.out, ← HDG.out]
            exact ⟨rfl, by rw [HW.out]; exact below_put4 _ _ _ _ _ _⟩
end Go.Proofs.YtjmaficiinhjpaaDoor.G
