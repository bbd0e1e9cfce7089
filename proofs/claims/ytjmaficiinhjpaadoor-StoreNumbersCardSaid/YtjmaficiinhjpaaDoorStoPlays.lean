/- wainwrightlaw17.StorePlays: the walk. -/
import Derived.Test.YtjmaficiinhjpaaDoorStoPlaysW
namespace Go.Proofs.YtjmaficiinhjpaaDoor.G
open Go.RowKit Go.Maps Go.WideMaps Go.Sort

theorem RefV.base {base base' : Nat} {w : World} {rb : Nat} {B : Nat → Prop} {G : List Vr} {X : List Rf} {turns : Int} {gA fA cA : Option Addr} {gc fc cc : Nat} (h : RefV base w rb B G X turns gA fA cA gc fc cc) (hb : base' ≤ base) : RefV base' w rb B G X turns gA fA cA gc fc cc :=
  ⟨h.c0, h.c1, h.c2, h.c3, h.f0, h.f1, h.f2, h.f3, h.rg, h.rf, h.rc, h.fr, h.hgc, h.hfc, h.hcc, Nat.le_trans hb h.hrb, h.hrz, h.hB, fun k hk => ⟨Nat.le_trans hb (h.hBz k hk).1, (h.hBz k hk).2⟩, h.len, h.leng⟩
theorem made_bk {base : Nat} {w w' : World} {sb n : Nat} {G : List Vr} {gm : Nat} {fv : Value} {rb : Nat} {B : Nat → Prop} (hS : StoreV base w sb n G [] 0 gm fv) (hR : RefS w.heap.size w' rb B G [] 0) (hb : Below w.heap.size w w') : Bk base w' sb rb n G [] 0 G [] 0 [] := by
  obtain ⟨gA, fA, cA, gc, fc, cc, hR⟩ := hR
  refine ⟨gm, fv, [], B, [], hS.later hb, rfl, ⟨_, _, _, _, _, _, hR.base hS.hz⟩, rfl, fun k hk => ?_, fun p hp => absurd hp (by simp)⟩
  have hz := (hS.footz k hk).2
  exact ⟨by have := hR.hrb; omega, fun hB => by have := (hR.hBz k hB).1; omega⟩
theorem Bk.arg {base : Nat} {w : World} {sb rb n : Nat} {G G' : List Vr} {X X' : List (List Vr × Bool)} {t t' : Int} (h : Bk base w sb rb n G X t G' X' t' []) {b : Nat} {o : Obj} (hb : b < base) (ho : w.heap[b]? = some o) : Bk base w sb rb n G X t G' X' t' [(b, o)] := by
  have hr := h.rbz
  obtain ⟨gm, fv, F, B, XR, hS, hF, hR, hX, hd, hK⟩ := h
  refine ⟨gm, fv, F, B, XR, hS, hF, hR, hX, hd, fun p hp => ?_⟩
  obtain rfl : p = (b, o) := by simpa using hp
  exact ⟨ho, fun hf => by have := (hS.footz _ hf).1; simp at this; omega, by show b ≠ rb; omega⟩
/-- An argument's variables, in a block that stays. -/
theorem ink_arg {base : Nat} {w0 w : World} {sb rb n : Nat} {G G' : List Vr} {X X' : List (List Vr × Bool)} {t t' : Int} (h : Bk base w sb rb n G X t G' X' t' []) (hz : w0.heap.size ≤ base) (hb : Below w0.heap.size w0 w) {A : Option Addr} {l : List Vr} (hL : VarsAt w0 A l) :
    ∃ K, Bk base w sb rb n G X t G' X' t' K ∧ InK w K A l := by
  have hL2 := hL.below hb
  by_cases hl : 0 < l.length
  · obtain ⟨b, off, rfl, hbz, _⟩ := hL hl
    obtain ⟨o, ho⟩ : ∃ o, w.heap[b]? = some o := ⟨_, Array.getElem?_eq_getElem (Nat.lt_of_lt_of_le hbz hb.size)⟩
    exact ⟨[(b, o)], h.arg (by omega) ho, hL2, fun _ a e => by obtain rfl := Option.some.inj e; exact ⟨o, by simp⟩⟩
  · exact ⟨[], h, hL2, fun hp => absurd hp hl⟩
theorem few_spec {l : List Vr} (h : fewB l = true) : l.length ≤ 30 ∧ ∀ v ∈ l, v.name.size ≤ 100 := by
  unfold fewB at h
  rw [Bool.and_eq_true] at h
  obtain ⟨h1, h2⟩ := h
  have h3 : l.length ≤ 30 := of_decide_eq_true h2
  rw [List.take_of_length_le h3, List.all_eq_true] at h1
  refine ⟨h3, fun v hv => ?_⟩
  have := h1 v hv
  unfold smallV at this
  rw [Bool.and_eq_true] at this
  exact of_decide_eq_true this.1

/-- A script in memory. -/
def ScriptAt (w : World) (A : Option Addr) (len : Nat) : Prop := ∀ i, i < len → ∃ b off kd nm Al cl lv call, A = some ⟨b, off, none⟩ ∧ b < w.heap.size ∧
  w.cell? ⟨b, off + i * 4, none⟩ = some (.int .i64 kd) ∧ w.cell? ⟨b, off + i * 4 + 1, none⟩ = some (.string nm) ∧ w.cell? ⟨b, off + i * 4 + 2, none⟩ = some (.slice Al (lv : List Vr).length cl) ∧ w.cell? ⟨b, off + i * 4 + 3, none⟩ = some (.bool call) ∧
  VarsAt w Al lv ∧ nm.size ≤ maxLen ∧ lv.length ≤ maxLen ∧ ∀ v ∈ lv, v.name.size ≤ maxLen ∧ v.val.size ≤ maxLen

set_option maxHeartbeats 16000000 in
set_option maxRecDepth 100000 in
theorem plays_any (A0 : Option Addr) (c0 : Nat) (l : List Vr) (A1 : Option Addr) (c1 len1 : Nat) (w : World) (hL : VarsAt w A0 l) (hll : l.length ≤ maxLen) (hls : ∀ v ∈ l, v.name.size ≤ maxLen ∧ v.val.size ≤ maxLen) (hS : ScriptAt w A1 len1) (_hlen1 : len1 ≤ maxLen) :
    Calls Tryd.prog 4 #[.slice A0 l.length c0, .slice A1 len1 c1] w fun e w' => e = .returned (.bool true) ∧ Below w.heap.size w w' := by
  obtain ⟨i0, hi, hz0, hz1, hz2⟩ := info_parts info_var
  have HL := Lib.hid hL
  have HS := Lib.hid hS
  have HFW := Lib.hid (few_calls l A0 c0 w hL hll hls)
  have HSL := Lib.hid (vars_src hL)
  clear hL hS
  cases hfb : fewB l with
  | false =>
    rw [hfb] at HFW
    clear hfb
    go_enter Tryd.func4, Tryd.ntmps4
    go_wp2_with (first
      | (go_at_call 15; refine HFW.out.mono ?_; rintro e w1 ⟨rfl, rfl⟩)
      | (go_at_call 14; refine (awake_calls _).mono ?_; rintro e w9 ⟨rfl, hB⟩; have HB9 := Lib.hid hB; clear hB))
    go_ret
    exact ⟨rfl, HB9.out⟩
  | true =>
    rw [hfb] at HFW
    obtain ⟨hl30, hln⟩ := few_spec hfb
    have HLN : Hid (Names l) := Lib.hid (fun v hv => by have := hln v hv; unfold maxLen; omega)
    clear hfb hln
    go_enter Tryd.func4, Tryd.ntmps4
    go_wp2_with (first
      | (go_at_call 15; refine HFW.out.mono ?_; rintro e w1 ⟨rfl, rfl⟩)
      | (at_builtin; refine wpList_append_any _ rfl _ _ 28 rfl w.heap.size 27 i0 _ 4 48 Tryd.underlying28 hi hz0 hz1 hz2 rfl (by decide) (.slice none 0 0) 0 [] rfl (World.ownsRow_nil _ _ _ _) _ _ _ (varsV l) rfl HSL.out (varsV_one _) (by unfold maxLen; omega) (by omega) (Nat.le_refl _) ?_; intro v1 w1 hown1 hgr1 hat1; rw [Nat.zero_add, List.nil_append] at hown1; obtain ⟨a1, k1, rfl⟩ := slice_of hown1; have B1 := Lib.hid ((Below.refl _ w).grown hgr1 (Nat.le_refl _) (fun j hj => by cases hj)); have R1 := Lib.hid (src_vars (Src.of_row hown1)); clear hown1 hgr1 hat1)
      | (go_at_call 7; refine (New.calls l a1 k1 _ R1.out (by omega) HLN.out).mono ?_; rintro e w2 ⟨sb, gm, rfl, hS2, hb2⟩; have HS2 := Lib.hid hS2; have B2 := Lib.hid hb2; clear hS2 hb2)
      | (go_at_call 16; refine (rnew_calls l A0 c0 _ (HL.out.below (B1.out.trans (B2.out.mono B1.out.size))) (by omega)).mono ?_; rintro e w3 ⟨rb, B, rfl, hR3, hb3⟩; have HBK := Lib.hid (made_bk HS2.out hR3 hb3); have B3 := Lib.hid ((B1.out.trans (B2.out.mono B1.out.size)).trans (hb3.mono (Nat.le_trans B1.out.size B2.out.size))); clear hR3 hb3))
    have HZ := Lib.hid B1.out.size
    go_loopw [7] (fun i wr => ∃ (k n : Nat) (G : List Vr) (X : List (List Vr × Bool)) (t : Int), k ≤ 60 ∧ i = .int .i64 k ∧ n ≤ l.length + k ∧ Hid (G.length ≤ 30 + k) ∧ Hid (X.length ≤ k) ∧ Hid (Bk w1.heap.size wr sb rb n G X t G X t []) ∧ Hid (Below w.heap.size w wr)) (fun i _ => 60 - (intOf i).toNat)
    case atStart => exact ⟨0, l.length, foldG l, [], 0, by omega, rfl, by omega, Lib.hid (by have := foldG_len l; omega), Lib.hid (by simp), HBK, B3⟩
    case round =>
      obtain ⟨k, n, G, X, t, hk, rfl, hn, HG, HX, HB, HW⟩ := hrel
      by_cases hin : k < len1 ∧ k < 60
      · obtain ⟨b, off, kd, nm, Al, cl, lv, call, rfl, hbz, d0, d1, d2, d3, hLv, hnm, hlvl, hlvs⟩ := HS.out k hin.1
        have e0 := (HW.out.cell (p := ⟨b, off + k * 4, none⟩) (by exact hbz)).trans d0
        have e1 := (HW.out.cell (p := ⟨b, off + k * 4 + 1, none⟩) (by exact hbz)).trans d1
        have e2 := (HW.out.cell (p := ⟨b, off + k * 4 + 2, none⟩) (by exact hbz)).trans d2
        have e3 := (HW.out.cell (p := ⟨b, off + k * 4 + 3, none⟩) (by exact hbz)).trans d3
        have HF := Lib.hid (fun W (hb : Below w.heap.size w W) => few_calls lv Al cl W (hLv.below hb) hlvl hlvs)
        obtain ⟨K, hBK, hIK⟩ := ink_arg HB.out HZ.out HW.out hLv
        have HBK2 := Lib.hid hBK
        have HIK := Lib.hid hIK
        have hk1 := hin.1
        have hk2 := hin.2
        clear d0 d1 d2 d3 hLv hlvs hBK hIK hin
        cases hfv : fewB lv with
        | false =>
          rw [hfv] at HF
          clear hfv
          go_wp2_with (go_at_call 15; refine (HF.out _ HW.out).mono ?_; rintro e w4 ⟨rfl, rfl⟩)
          go_ret
          exact ⟨rfl, HW.out⟩
        | true =>
          rw [hfv] at HF
          obtain ⟨hlv30, hlvn⟩ := few_spec hfv
          have HN : Hid (Names lv) := Lib.hid (fun v hv => by have := hlvn v hv; unfold maxLen; omega)
          clear hfv hlvn
          unfold maxLen at hnm
          by_cases hbig : 100 < nm.size
          · have g1 : ((100 : Int) < (nm.size : Int)) := by omega
            go_wp2_with (go_at_call 15; refine (HF.out _ HW.out).mono ?_; rintro e w4 ⟨rfl, rfl⟩)
            go_ret
            exact ⟨rfl, HW.out⟩
          · have g1 : ¬ ((100 : Int) < (nm.size : Int)) := by omega
            go_wp2_with (first
              | (go_at_call 15; refine (HF.out _ HW.out).mono ?_; rintro e w4 ⟨rfl, rfl⟩)
              | (go_at_call 17; refine (step_bk HBK2.out (by have := HX.out; omega) (by have := HG.out; omega) (by omega) kd nm (by unfold maxLen; omega) lv Al cl call HIK.out (by omega) HN.out).mono ?_; rintro e w5 ⟨rfl, n2, G2, X2, t2, hB5, hn5, hG5, hX5, hb5⟩; have HB5 := Lib.hid (hB5.drop (K' := []) (by simp)); have HG5 := Lib.hid hG5; have HX5 := Lib.hid hX5; have HW5 := Lib.hid (HW.out.trans (hb5.mono HZ.out)); clear hB5 hG5 hX5 hb5))
            go_roundw
            case rel => exact ⟨k + 1, n2, G2, X2, t2, by omega, by go_num, by omega, Lib.hid (by have := HG5.out; have := HG.out; omega), Lib.hid (by have := HX5.out; have := HX.out; omega), HB5, HW5⟩
            case measure => simp [intOf]; omega
      · have hout : len1 ≤ k ∨ (k < len1 ∧ 60 ≤ k) := by omega
        rcases hout with h1 | ⟨h1, h2⟩
        all_goals
          go_wp2_with (go_at_call 14; refine (awake_calls _).mono ?_; rintro e w9 ⟨rfl, hB⟩; have HB9 := Lib.hid (HW.out.trans (hB.mono HW.out.size)); clear hB)
          go_ret
          exact ⟨rfl, HB9.out⟩
end Go.Proofs.YtjmaficiinhjpaaDoor.G
