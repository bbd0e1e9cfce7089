/- wainwrightlaw17.StoreOrder: the walk. -/
import Derived.Test.YtjmaficiinhjpaaDoorStoOrd
import Derived.WalkLawsBesides
import Derived.Sort.Walk0
import Derived.Deep.RegionHeld3
namespace Go.Proofs.YtjmaficiinhjpaaDoor.G
open Go.RowKit Go.Maps Go.WideMaps Go.Sort
attribute [local irreducible] dig

theorem new_nil (w : World) : Calls Tryd.prog 7 #[.slice none 0 0] w fun e w' => ∃ sb, e = .returned (.pointer (some ⟨sb, 0, none⟩)) ∧ Sk w.heap.size w' sb 0 [] [] 0 [] ∧ Below w.heap.size w w' := by
  refine (New_sk [] none 0 w (fun h => absurd h (by simp)) (by simp) (fun v hv => absurd hv (by simp))).mono ?_
  rintro e w' ⟨sb, rfl, hS, hB⟩
  exact ⟨sb, rfl, hS, hB⟩
theorem get_in {G : List Vr} (h : RisesV G) {v : Vr} (hv : v ∈ G) : getX G [] v.name = (v, true) := by
  unfold getX
  rw [look_self h hv]; rfl
theorem last_start {w : World} : LastM (w.alloc (.map #[] 0)) w.heap.size 0 [] :=
  ⟨.map [], by simpa using World.ownsMap_made w Tryd.prog 9 strR, tidy_empty, fun x z => rfl, fun x => rfl, rfl⟩

/-- What the loop keeps. -/
structure OrdW (base : Nat) (w0 w : World) (sb b n k : Nat) (G : List Vr) : Prop where
  sk : ∃ o, Sk base w sb n G [] (k : Int) [(b, o)]
  lm : LastM w b n G
  nk : n ≤ k
  small : ∀ v ∈ G, v.name.size ≤ 9
  len : G.length ≤ k
  below : Below base w0 w
theorem OrdW.later {base : Nat} {w0 w w' : World} {sb b n k : Nat} {G : List Vr} (h : OrdW base w0 w sb b n k G) (hb : Below w.heap.size w w') : OrdW base w0 w' sb b n k G := by
  obtain ⟨o, hS⟩ := h.sk
  exact ⟨⟨o, hS.later hb⟩, h.lm.kept (hb.block b h.lm.lt), h.nk, h.small, h.len, h.below.trans (hb.mono hS.size)⟩
/-- Behind a call on the store and its like on the map. -/
theorem drop_ord {base : Nat} {w0 w : World} {sb b n k : Nat} {G : List Vr} (h : OrdW base w0 w sb b n k G) (hb : base ≤ b) (hk : k < 60) (x : ByteArray) (hx : x.size ≤ 9) :
    Calls Tryd.prog 20 #[.pointer (some ⟨sb, 0, none⟩), .string x] w fun e w' => e = .returned (.tuple #[]) ∧ LastM w' b n G ∧
      ∀ w2 D, w'.ownsMap Tryd.prog 9 strR b n D → Tidy D → (∀ x z, D.atKey (keyL x) z = (lookS G x).getD z) → (∀ x, Maps.has D (keyL x) = (lookL G x).isSome) → Maps.size D = G.length →
        w2.ownsMap Tryd.prog 9 strR b n (D.del (keyL x)) → w'.grownBy w2 (some b) → OrdW base w0 w2 sb b n (k + 1) (dropG G x) := by
  obtain ⟨o, hS⟩ := h.sk
  have hw : wrap64 ((k : Int) + 1) = ((k + 1 : Nat) : Int) := by unfold wrap64; omega
  refine (Drop_sk hS x (by unfold maxLen; omega)).mono ?_
  rintro e w' ⟨rfl, hS1, hB⟩
  have hbk : w'.heap[b]? = w.heap[b]? := (hS1.at (b := b) (o := o) (by simp)).trans (hS.at (b := b) (o := o) (by simp)).symm
  refine ⟨rfl, h.lm.kept hbk, fun w2 D hown ht hat hhas hsz hown2 hg => ?_⟩
  have hL := LastM.del ht hat hhas hsz hS.rises x hown2
  obtain ⟨o2, ho2⟩ := hL.obj
  have hS2 := hS1.turned hg ho2
  rw [hw] at hS2
  exact ⟨⟨o2, hS2⟩, hL, by have := h.nk; omega, fun v hv => h.small v (List.mem_filter.mp hv).1, by have := h.len; have := List.length_filter_le (fun v : Vr => decide (v.name ≠ x)) G; unfold dropG; omega,
    (h.below.trans hB).grown hg (by have := hS1.size; omega) (fun j hj => by cases hj; exact hb)⟩
theorem set_ord {base : Nat} {w0 w : World} {sb b n k : Nat} {G : List Vr} (h : OrdW base w0 w sb b n k G) (hb : base ≤ b) (hk : k < 60) (v : Vr) (hx : v.name.size ≤ 9) :
    Calls Tryd.prog 21 #[.pointer (some ⟨sb, 0, none⟩), .agg #[.string v.name, .string v.val, .int .i64 v.fl, .int .i64 v.og]] w fun e w' => e = .returned (.tuple #[]) ∧ LastM w' b n G ∧
      ∀ w1 w2 D, Below w'.heap.size w' w1 → w1.ownsMap Tryd.prog 9 strR b n D → Tidy D → (∀ x z, D.atKey (keyL x) z = (lookS G x).getD z) → (∀ x, Maps.has D (keyL x) = (lookL G x).isSome) → Maps.size D = G.length →
        w2.ownsMap Tryd.prog 9 strR b (n + 1) (D.put (keyL v.name) (valD v)) → w1.grownBy w2 (some b) → OrdW base w0 w2 sb b (n + 1) (k + 1) (setG G v) := by
  obtain ⟨o, hS⟩ := h.sk
  have hw : wrap64 ((k : Int) + 1) = ((k + 1 : Nat) : Int) := by unfold wrap64; omega
  refine (Set_sk hS v (by unfold maxLen; omega) (by have := h.nk; unfold maxLen; omega)).mono ?_
  rintro e w' ⟨rfl, hS1, hB⟩
  have hbk : w'.heap[b]? = w.heap[b]? := (hS1.at (b := b) (o := o) (by simp)).trans (hS.at (b := b) (o := o) (by simp)).symm
  refine ⟨rfl, h.lm.kept hbk, fun w1 w2 D hb1 hown ht hat hhas hsz hown2 hg => ?_⟩
  have hL := LastM.put ht hat hhas hsz hS.rises v hown2
  obtain ⟨o2, ho2⟩ := hL.obj
  have hS2 := (hS1.later hb1).turned hg ho2
  rw [hw] at hS2
  refine ⟨⟨o2, hS2⟩, hL, by have := h.nk; omega, fun u hu => ?_, by have := h.len; have := setG_lenO G v; omega,
    ((h.below.trans hB).trans (hb1.mono hS1.size)).grown hg (by have := hS1.size; have := hb1.size; omega) (fun j hj => by cases hj; exact hb)⟩
  rcases mem_setG G v u hu with rfl | hu
  · exact hx
  · exact h.small u hu

set_option maxHeartbeats 16000000 in
set_option maxRecDepth 100000 in
theorem order_any (a0 : Option Addr) (len0 cap0 : Nat) (z0 : List Int) (w : World) (hmax : len0 ≤ maxLen)
    (hidx : ∀ k, k < len0 → ∃ b off, a0 = some ⟨b, off, none⟩ ∧ b < w.heap.size ∧ ∀ j, j < len0 → w.cell? ⟨b, off + j, none⟩ = some (.int .i64 (z0.getD j 0))) :
    Calls Tryd.prog 6 #[.slice a0 len0 cap0] w fun e w' => e = .returned (.bool true) ∧ Below w.heap.size w w' := by
  have hmm := @run_makeMap Tryd.prog
  have HIDX := Lib.hid hidx
  unfold maxLen at hmax
  clear hidx
  go_enter Tryd.func6, Tryd.ntmps6
  go_wp2_with (go_at_call 7; refine (new_nil w).mono ?_; rintro e w1 ⟨sb, rfl, hS, hB⟩; have HS0 := Lib.hid hS; have HB0 := Lib.hid hB; clear hS hB)
  clear hmm
  have HZ1 : Hid (w.heap.size ≤ w1.heap.size) := Lib.hid HB0.out.size
  go_loopw [5] (fun v5 wr => ∃ (k n : Nat) (G : List Vr), k ≤ 60 ∧ k ≤ len0 ∧ v5 = .int .i64 k ∧ Hid (OrdW w.heap.size w wr sb w1.heap.size n k G)) (fun i _ => 60 - (intOf i).toNat)
  case atStart =>
    refine ⟨0, 0, [], by omega, Nat.zero_le _, rfl, Lib.hid ⟨⟨_, HS0.out.keep _⟩, last_start, Nat.le_refl _, fun v hv => absurd hv (by simp), by simp, HB0.out.alloc HZ1.out _⟩⟩
  case round =>
    obtain ⟨k, n, G, hk, hkl, rfl, HO⟩ := hrel
    by_cases hin : k < len0 ∧ k < 60
    · obtain ⟨b, off, rfl, hbz, hcell⟩ := HIDX.out k hin.1
      have hcx := (HO.out.below.cell (p := ⟨b, off + k, none⟩) (by exact hbz)).trans (hcell k hin.1)
      have hk1 := hin.1
      have hk2 := hin.2
      clear hcell hin
      have T1 : Hid True := Lib.hid trivial
      have T2 : Hid True := Lib.hid trivial
      have HN : Hid (n < maxLen) := Lib.hid (by have := HO.out.nk; unfold maxLen; omega)
      go_wp2_with (first
        | (go_at_call 8; refine (place_any _ 1048576 (by decide) (by decide) _).mono ?_; rintro e w2 ⟨q, hq, rfl, rfl⟩; clear hq)
        | (go_at_call 19; refine (word_calls _ _).mono ?_; rintro e w3 ⟨s, rfl, hs, rfl⟩)
        | (go_at_call 9; clear T1; refine (dig_calls k (by omega) _).mono ?_; rintro e wd ⟨rfl, hb⟩; have HO := Lib.hid (HO.out.later hb); clear hb)
        | (go_at_call 21; refine (set_ord HO.out HZ1.out hk2 ⟨s, dig k, 2, 3⟩ hs).mono ?_; rintro e ws ⟨rfl, hL, hK⟩; have HL := Lib.hid hL; have HK := Lib.hid hK; clear hL hK)
        | (go_at_call 9; clear T2; refine (dig_calls k (by omega) _).mono ?_; rintro e wm ⟨rfl, hb⟩; obtain ⟨D, hown, ht, hat, hhas, hsz⟩ := HL.out.kept (hb.block _ HL.out.lt); have HOWN := Lib.hid hown; have HT := Lib.hid ht; have HAT := Lib.hid hat; have HHAS := Lib.hid hhas; have HSZ := Lib.hid hsz; have HB2 := Lib.hid hb; clear hown ht hat hhas hsz hb)
        | (at_mapUpdate; refine wpList_mapUpdate_own _ rfl _ _ _ 47 rfl 9 9 str_law Tryd.underlying47 strR w1.heap.size n D rfl HOWN.out HN.out _ _ _ rfl rfl (key_mk s (by unfold maxLen; omega)) _ [] rfl ?_; intro wu hownu hgru; have HU := Lib.hid hownu; have HGU := Lib.hid hgru; clear hownu hgru)
        | (go_at_call 20; refine (drop_ord HO.out HZ1.out hk2 s hs).mono ?_; rintro e ws ⟨rfl, hL, hK⟩; obtain ⟨D, hown, ht, hat, hhas, hsz⟩ := hL; have HOWN := Lib.hid hown; have HT := Lib.hid ht; have HAT := Lib.hid hat; have HHAS := Lib.hid hhas; have HSZ := Lib.hid hsz; have HK := Lib.hid hK; clear hown ht hat hhas hsz hK)
        | (at_delete; refine wpList_delete_own _ rfl _ _ 47 9 rfl 9 str_law Tryd.underlying47 strR w1.heap.size n D rfl HOWN.out _ _ rfl (key_mk s (by unfold maxLen; omega)) ?_; intro wu hownu hturn; have HU := Lib.hid hownu; have HGU := Lib.hid hturn.grown; clear hownu hturn))
      all_goals
        go_roundw
        case rel => first
          | exact ⟨k + 1, n, dropG G s, by omega, by omega, by go_num, Lib.hid (HK.out wu D HOWN.out HT.out HAT.out HHAS.out HSZ.out HU.out HGU.out)⟩
          | exact ⟨k + 1, n + 1, setG G ⟨s, dig k, 2, 3⟩, by omega, by omega, by go_num, Lib.hid (HK.out wm wu D HB2.out HOWN.out HT.out HAT.out HHAS.out HSZ.out HU.out HGU.out)⟩
        case measure => simp [intOf]; omega
    · have hmin : Hid (min (len0 : Int) 60 = (k : Int)) := Lib.hid (by omega)
      have hout : len0 ≤ k ∨ (k < len0 ∧ 60 ≤ k) := by omega
      have HGL : Hid (G.length ≤ 100000) := Lib.hid (by have := HO.out.len; omega)
      rcases hout with h1 | ⟨h1, h2⟩
      all_goals
        go_wp2_with (go_at_call 22; obtain ⟨o, hS⟩ := HO.out.sk; refine (All_sk hS HGL.out).mono ?_; rintro e wa ⟨A, c, rfl, hv, hS2, hB⟩; have HO2 := Lib.hid (HO.out.later hB); have HV := Lib.hid hv; clear hv hS hS2 hB)
        go_loopw [9] (fun i wq => ∃ j : Nat, j ≤ G.length ∧ i = .int .i64 j ∧ Hid (OrdW w.heap.size w wq sb w1.heap.size n k G) ∧ Hid (VarsAt wq A G)) (fun i _ => G.length - (intOf i).toNat)
        case atStart => exact ⟨0, Nat.zero_le _, rfl, HO2, HV⟩
        case round =>
          obtain ⟨j, hj, rfl, HOj, HVj⟩ := hrel
          by_cases hjl : j < G.length
          · obtain ⟨v, hv⟩ : ∃ v, G[j]? = some v := ⟨_, List.getElem?_eq_getElem hjl⟩
            obtain ⟨ab, ao, rfl, haz, hac⟩ := HVj.out (by omega)
            obtain ⟨c0, c1, _, _⟩ := hac j v hv
            have hmem := List.mem_of_getElem? hv
            have hsm := HOj.out.small v hmem
            obtain ⟨o, hS⟩ := HOj.out.sk
            have hr := hS.rises
            have hlk0 := (fun q => LastM.look (HOj.out.lm.kept (w' := wr.drewN q) rfl) (x := v.name) (by unfold maxLen; omega) (look_self hr hmem))
            have HG1 := Lib.hid (get_in hr hmem)
            have j0 : (0 : Int) ≤ (j : Int) := Int.natCast_nonneg _
            have j1 : (j : Int) < (G.length : Int) := by omega
            have HGLB := HGL.out
            by_cases hj0 : (0 : Int) < (j : Int)
            · obtain ⟨m, rfl⟩ : ∃ m, j = m + 1 := ⟨j - 1, by omega⟩
              obtain ⟨u, hu⟩ : ∃ u, G[m]? = some u := ⟨_, List.getElem?_eq_getElem (by omega)⟩
              obtain ⟨m0, _, _, _⟩ := hac m u hu
              have hlt : ltN u.name v.name := by
                obtain ⟨h1, e1⟩ := List.getElem?_eq_some_iff.mp hu
                obtain ⟨h2, e2⟩ := List.getElem?_eq_some_iff.mp hv
                rw [← e1, ← e2]
                exact (List.pairwise_iff_getElem.mp hr) m (m + 1) h1 h2 (by omega)
              have hd2 : Op.bytesLess u.name.toList v.name.toList = true := by rw [bytesLess_eq]; exact decide_eq_true hlt
              have hd0 : decide ((0 : Int) < ((m + 1 : Nat) : Int)) = true := decide_eq_true hj0
              have hd1 : decide (0 < m + 1) = true := decide_eq_true (by omega)
              have hd3 : decide ((0 : Int) < (m : Int) + 1) = true := decide_eq_true (by omega)
              have i3 : IntKind.i64.wrap ((m : Int) + 1 - 1) = (m : Int) := (IntWalk.i64_in _ (by omega)).trans (by omega)
              have i4 : IntKind.i64.wrap (m : Int) = (m : Int) := IntWalk.i64_in _ (by omega)
              have k0 : (0 : Int) ≤ (m : Int) := Int.natCast_nonneg _
              have k1 : (m : Int) < (G.length : Int) := by omega
              have k2 : (m : Int) + 1 < (G.length : Int) := by omega
              have k3 : (0 : Int) ≤ (m : Int) + 1 := by omega
              have HDS : Hid True := Lib.hid trivial
              clear hac hv hu hlt
              go_wp2
              go_quiet (fail)
              clear hd2 m0
              have HOy := Lib.hid (HOj.out.later (w' := wr.drewN nq) ⟨rfl, rfl, rfl, Nat.le_refl _, fun _ _ => rfl⟩)
              have HVy : Hid (VarsAt (wr.drewN nq) (some ⟨ab, ao, none⟩) G) := Lib.hid (HVj.out.below ⟨rfl, rfl, rfl, Nat.le_refl _, fun _ _ => rfl⟩)
              replace c0 : (wr.drewN nq).cell? ⟨ab, ao + (m + 1) * 4, none⟩ = _ := c0
              replace c1 : (wr.drewN nq).cell? ⟨ab, ao + (m + 1) * 4 + 1, none⟩ = _ := c1
              have haz2 : ab < (wr.drewN nq).heap.size := haz
              clear hlk0 haz HOj HVj HDS
              generalize wr.drewN nq = wy at HOy HVy c0 c1 haz2 ⊢
              obtain ⟨o2, hS2⟩ := HOy.out.sk
              have HS2 := Lib.hid hS2
              clear hS2
              go_wp2_with (go_at_call 11; refine (Get_sk HS2.out v.name (by unfold maxLen; omega) HG1.out).mono ?_; rintro e wg ⟨rfl, hS3, hB⟩; have HBA := Lib.hid (hB.alloc hB.size (boxO v)); have HOg := Lib.hid (HOy.out.later HBA.out); have HVg := Lib.hid (HVy.out.below HBA.out); have cg := (hB.cell (p := ⟨ab, ao + (m + 1) * 4 + 1, none⟩) (by exact haz2)).trans c1; have zg : ab < wg.heap.size := Nat.lt_of_lt_of_le haz2 hB.size; clear hS3 hB)
              go_quiet (fail)
              go_wp2
              go_roundw
              case rel => exact ⟨(m + 1) + 1, by omega, by go_num, Lib.hid (HOg.out.later ⟨rfl, rfl, rfl, Nat.le_refl _, fun _ _ => rfl⟩), Lib.hid (HVg.out.below ⟨rfl, rfl, rfl, Nat.le_refl _, fun _ _ => rfl⟩)⟩
              case measure => simp [intOf]; omega
            · have hd0 : decide ((0 : Int) < (j : Int)) = false := decide_eq_false hj0
              have hd1 : decide (0 < j) = false := decide_eq_false (by omega)
              have HDS : Hid True := Lib.hid trivial
              clear hac hv
              go_wp2
              go_quiet (fail)
              have HOy := Lib.hid (HOj.out.later (w' := wr.drewN nq) ⟨rfl, rfl, rfl, Nat.le_refl _, fun _ _ => rfl⟩)
              have HVy : Hid (VarsAt (wr.drewN nq) (some ⟨ab, ao, none⟩) G) := Lib.hid (HVj.out.below ⟨rfl, rfl, rfl, Nat.le_refl _, fun _ _ => rfl⟩)
              replace c0 : (wr.drewN nq).cell? ⟨ab, ao + j * 4, none⟩ = _ := c0
              replace c1 : (wr.drewN nq).cell? ⟨ab, ao + j * 4 + 1, none⟩ = _ := c1
              have haz2 : ab < (wr.drewN nq).heap.size := haz
              clear hlk0 haz HOj HVj HDS
              generalize wr.drewN nq = wy at HOy HVy c0 c1 haz2 ⊢
              obtain ⟨o2, hS2⟩ := HOy.out.sk
              have HS2 := Lib.hid hS2
              clear hS2
              go_wp2_with (go_at_call 11; refine (Get_sk HS2.out v.name (by unfold maxLen; omega) HG1.out).mono ?_; rintro e wg ⟨rfl, hS3, hB⟩; have HBA := Lib.hid (hB.alloc hB.size (boxO v)); have HOg := Lib.hid (HOy.out.later HBA.out); have HVg := Lib.hid (HVy.out.below HBA.out); have cg := (hB.cell (p := ⟨ab, ao + j * 4 + 1, none⟩) (by exact haz2)).trans c1; have zg : ab < wg.heap.size := Nat.lt_of_lt_of_le haz2 hB.size; clear hS3 hB)
              go_quiet (fail)
              go_wp2
              go_roundw
              case rel => exact ⟨j + 1, by omega, by go_num, Lib.hid (HOg.out.later ⟨rfl, rfl, rfl, Nat.le_refl _, fun _ _ => rfl⟩), Lib.hid (HVg.out.below ⟨rfl, rfl, rfl, Nat.le_refl _, fun _ _ => rfl⟩)⟩
              case measure => simp [intOf]; omega
          · obtain rfl : j = G.length := by omega
            obtain ⟨o2, hS2⟩ := HOj.out.sk
            obtain ⟨D, hown, ht, hat, hhas, hsz⟩ := HOj.out.lm
            have HS2 := Lib.hid hS2
            have HOWN := Lib.hid hown
            have HSZ := Lib.hid hsz
            have hm := hmin.out
            clear hS2 hown ht hat hhas hsz
            go_wp2_with (first
              | (at_len; refine wpList_len_own _ rfl _ 47 rfl 9 9 Tryd.underlying47 strR w1.heap.size n D rfl HOWN.out ?_; rw [HSZ.out])
              | (go_at_call 13; refine (Turns_sk HS2.out).mono ?_; rintro e w9 ⟨rfl, rfl⟩)
              | (go_at_call 14; refine (awake_calls _).mono ?_; rintro e w9 ⟨rfl, hB⟩; have HB9 := Lib.hid (HOj.out.below.trans (hB.mono HOj.out.below.size)); clear hB))
            go_ret
            exact ⟨rfl, HB9.out⟩
end Go.Proofs.YtjmaficiinhjpaaDoor.G
