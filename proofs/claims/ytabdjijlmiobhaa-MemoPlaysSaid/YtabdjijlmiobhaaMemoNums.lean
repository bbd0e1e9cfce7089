/- wainwrightlaw22.MemoNumbers: the walk of the law, for every number and every list. -/
import Derived.Test.YtabdjijlmiobhaaMemoDig
import Derived.Deep.RegionHeld3
namespace Go.Proofs.Ytabdjijlmiobhaa.G
open Go.RowKit Go.Maps Go.Sort
attribute [local irreducible] dig

theorem Both.drew {bo : Option (Nat × Obj)} {base : Nat} {w0 w : World} {cb rb n : Nat} {M h h' : Int} {E E' : List Ent} {bm : Nat} (hB : Both bo base w0 w cb rb n M h h' E E' bm) : Both bo base w0 w.drew cb rb n M h h' E E' bm :=
  hB.later ⟨rfl, rfl, rfl, Nat.le_refl _, fun _ _ => rfl⟩
set_option maxHeartbeats 4000000 in
set_option maxRecDepth 100000 in
theorem memoNumbers_any (a0 : Int) (a1 : Option Addr) (len1 cap1 : Nat) (z1 : List Int) (w : World)
    (hidx : ∀ k, k < len1 → ∃ b off, a1 = some ⟨b, off, none⟩ ∧ b < w.heap.size ∧ ∀ j, j < len1 → w.cell? ⟨b, off + j, none⟩ = some (.int .i64 (z1.getD j 0))) :
    Calls Try.prog 4 #[.int .i64 a0, .slice a1 len1 cap1] w fun e w' => e = .returned (.bool true) ∧ Below w.heap.size w w' := by
  have HIDX := Lib.hid hidx
  clear hidx
  go_enter Try.func4, Try.ntmps4
  go_wp2_with (first
    | (go_at_call 16; refine (place_any a0 6 (by decide) (by decide) _).mono ?_; rintro e w1 ⟨m, hm, hm1, rfl, hb1⟩; have H1 := Lib.hid hb1; clear hm hb1)
    | (go_at_call 12; refine (new_at (m : Int) _ m (by omega)).mono ?_; rintro e w2 ⟨cb, bm, rfl, hA⟩; have HA0 := Lib.hid hA; clear hA)
    | (go_at_call 13; refine (rnew_both HA0.out (m : Int) (by omega)).mono ?_; rintro e w3 ⟨rb, rfl, hB⟩; have HB0 := Lib.hid hB; clear hB))
  go_loopw [8] (fun v8 wr => ∃ (k : Nat) (h : Int) (E : List Ent), k ≤ 120 ∧ v8 = .int .i64 k ∧ Hid ((E.length : Int) ≤ m) ∧ Hid (Both none w1.heap.size w1 wr cb rb k m h h E E bm)) (fun i _ => 120 - (intOf i).toNat)
  case atStart => exact ⟨0, 0, [], by omega, rfl, Lib.hid (by simp), HB0⟩
  case round =>
    obtain ⟨k, h, E, hk, rfl, HE, HB⟩ := hrel
    have HB1 := Lib.hid ((H1.out.trans (HB.out.zero.1.mono H1.out.size)))
    by_cases hin : k < len1 ∧ k < 120
    · obtain ⟨b, off, rfl, hbz, hcell⟩ := HIDX.out k hin.1
      have hcx := (HB1.out.cell (p := ⟨b, off + k, none⟩) (by exact hbz)).trans (hcell k hin.1)
      have hk1 := hin.1
      have hk2 := hin.2
      clear hcell hin
      go_wp2_with (first
        | (go_at_call 16; refine (place_any _ 1073741824 (by decide) (by decide) _).mono ?_; rintro e w4 ⟨q, hq, hq1, rfl, hbq⟩; have HB2 := Lib.hid (HB.out.later hbq); clear hq hbq))
      have e1 : (q : Int).tmod 5 = (q : Int) % 5 := Int.tmod_eq_emod_of_nonneg (by omega)
      have e2b : IntKind.i64.wrap ((q : Int) / 5) = (q : Int) / 5 := IntWalk.i64_in _ (by omega)
      have e2 : IntKind.i64.wrap ((q : Int).tdiv 5) = (q : Int) / 5 := by rw [Int.tdiv_eq_ediv_of_nonneg (by omega)]; exact IntWalk.i64_in _ (by omega)
      have e3 : ((q : Int) / 5).tmod 8 = (q : Int) / 5 % 8 := Int.tmod_eq_emod_of_nonneg (by omega)
      have e4 : IntKind.i64.wrap ((q : Int) / 5 % 8 + 1) = (q : Int) / 5 % 8 + 1 := IntWalk.i64_in _ (by omega)
      have e5b : IntKind.i64.wrap ((q : Int) / 40) = (q : Int) / 40 := IntWalk.i64_in _ (by omega)
      have e5 : IntKind.i64.wrap ((q : Int).tdiv 40) = (q : Int) / 40 := by rw [Int.tdiv_eq_ediv_of_nonneg (by omega)]; exact IntWalk.i64_in _ (by omega)
      have e6 : ((q : Int) / 40).tmod 3 = (q : Int) / 40 % 3 := Int.tmod_eq_emod_of_nonneg (by omega)
      have e7b : IntKind.i64.wrap ((q : Int) / 120) = (q : Int) / 120 := IntWalk.i64_in _ (by omega)
      have e7 : IntKind.i64.wrap ((q : Int).tdiv 120) = (q : Int) / 120 := by rw [Int.tdiv_eq_ediv_of_nonneg (by omega)]; exact IntWalk.i64_in _ (by omega)
      have e8 : ((q : Int) / 120).tmod 4 = (q : Int) / 120 % 4 := Int.tmod_eq_emod_of_nonneg (by omega)
      have hsl := cut_lit ⟨#[97, 98, 99, 100, 101, 102, 103, 104]⟩ ((q : Int) / 5 % 8) ((q : Int) / 5 % 8 + 1) (by omega) (by omega) (by show (q : Int) / 5 % 8 + 1 ≤ ((8 : Nat) : Int); omega)
      have hxs : ((⟨#[97, 98, 99, 100, 101, 102, 103, 104]⟩ : ByteArray).extract ((q : Int) / 5 % 8).toNat ((q : Int) / 5 % 8 + 1).toNat).size ≤ maxLen := by
        have l_ : (⟨#[97, 98, 99, 100, 101, 102, 103, 104]⟩ : ByteArray).size = 8 := rfl
        rw [ByteArray.size_extract]; unfold maxLen; omega
      have HXS := Lib.hid hxs
      clear hxs
      have hn : k < maxLen := by unfold maxLen; omega
      go_region_held3 (fun _ => True) (exact True.intro) (first
        | (go_at_call 17; refine (dig_both HB2.out.drew k hk2).mono ?_; rintro e w5 ⟨rfl, hB5⟩; have HB5 := Lib.hid hB5; clear hB5)
        | (go_at_call 15; refine (step_both HB5.out _ _ _ _ _ HXS.out hn HE.out (by omega)).mono ?_; rintro e w6 ⟨rfl, h6, E6, hE6, hB6⟩; have HB6 := Lib.hid hB6; have HE6 := Lib.hid hE6; clear hB6 hE6))
      clear e1 e2 e2b e3 e4 e5 e5b e6 e7 e7b e8 hsl
      go_wp2
      go_roundw
      case rel => exact ⟨k + 1, h6, E6, by omega, by go_num, HE6, HB6⟩
      case measure => simp [intOf]; omega
    · have hout : len1 ≤ k ∨ (k < len1 ∧ 120 ≤ k) := by omega
      rcases hout with h1 | ⟨h1, h2⟩
      all_goals
        go_wp2_with (first
          | (go_at_call 14; refine (awake_both HB.out).mono ?_; rintro e w4 ⟨rfl, hB⟩; have HB4 := Lib.hid hB; clear hB))
        go_ret
        exact ⟨rfl, H1.out.trans (HB4.out.zero.1.mono H1.out.size)⟩

theorem idx_ints {a1 : Option Addr} {len1 cap1 : Nat} {z1 : List Int} {w : World}
    (w1 : (a1 = none ∧ len1 = 0 ∧ cap1 = 0 ∧ z1 = []) ∨ ∃ x, a1 = some x ∧ len1 ≤ cap1 ∧ cap1 ≤ maxLen ∧ z1.length = cap1 ∧ (∀ i, i < z1.length → w.cell? (x.add i) = some (.int .i64 (z1.getD i 0))) ∧ ∀ n ∈ z1, (Lit.int .i64 n).wf = true)
    (k : Nat) (hk : k < len1) : ∃ b off, a1 = some ⟨b, off, none⟩ ∧ b < w.heap.size ∧ ∀ j, j < len1 → w.cell? ⟨b, off + j, none⟩ = some (.int .i64 (z1.getD j 0)) := by
  rcases w1 with ⟨_, h, _⟩ | ⟨x, hx, h1, h2, h3, h4, _⟩
  · omega
  · have hsp : x.spot = none := World.cell?_spot (h4 0 (by omega))
    obtain ⟨b, off, sp⟩ := x
    simp only at hsp
    subst hsp
    have hc : ∀ j, j < len1 → w.cell? ⟨b, off + j, none⟩ = some (.int .i64 (z1.getD j 0)) := fun j hj => by
      have e : (⟨b, off, none⟩ : Addr).add j = ⟨b, off + j, none⟩ := by
        unfold Addr.add
        split
        · rename_i h0; rw [h0]; rfl
        · rfl
      rw [← e]
      exact h4 j (by omega)
    refine ⟨b, off, hx, Decidable.byContradiction fun hn => ?_, hc⟩
    have := hc 0 (by omega)
    rw [show w.cell? ⟨b, off + 0, none⟩ = none by simp [World.cell?, Array.getElem?_eq_none (show w.heap.size ≤ b by omega)]] at this
    cases this
theorem memoNumbers_walk (a0 : Int) (a1 : Option Addr) (len1 cap1 : Nat) (z1 : List Int) (w : World) (_w0 : (Lit.int .i64 a0).wf = true)
    (w1 : (a1 = none ∧ len1 = 0 ∧ cap1 = 0 ∧ z1 = []) ∨ ∃ x, a1 = some x ∧ len1 ≤ cap1 ∧ cap1 ≤ maxLen ∧ z1.length = cap1 ∧ (∀ i, i < z1.length → w.cell? (x.add i) = some (.int .i64 (z1.getD i 0))) ∧ ∀ n ∈ z1, (Lit.int .i64 n).wf = true) :
    Calls Try.prog 4 #[.int .i64 a0, .slice a1 len1 cap1] w fun e w' => e = .returned (.bool true) ∧ Below w.heap.size w w' :=
  memoNumbers_any a0 a1 len1 cap1 z1 w (fun k hk => idx_ints w1 k hk)
end Go.Proofs.Ytabdjijlmiobhaa.G
