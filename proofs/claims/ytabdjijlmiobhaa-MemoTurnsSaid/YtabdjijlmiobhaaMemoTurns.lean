/- wainwrightlaw22.MemoTurns: the walk of the law, for every list and every number. -/
import Derived.Test.YtabdjijlmiobhaaMemoAt
namespace Go.Proofs.Ytabdjijlmiobhaa.G
open Go.RowKit Go.Maps Go.Sort

def nmX : ByteArray := ⟨#[120]⟩
def nmY : ByteArray := ⟨#[121]⟩
theorem nmX_le : nmX.size ≤ maxLen := by decide
theorem nmY_le : nmY.size ≤ maxLen := by decide
def One (E : List Ent) : Prop := E = [] ∨ ∃ t d s, E = [⟨nmX, t, d, s⟩]
theorem put_one {E : List Ent} (h : One E) (t d : Int) (s : ByteArray) : putE 3 E ⟨nmX, t, d, s⟩ = [⟨nmX, t, d, s⟩] := by
  rcases h with rfl | ⟨t', d', s', rfl⟩
  · rfl
  · simp [putE, without]
theorem one_len {E : List Ent} (h : One E) : (E.length : Int) ≤ 3 := by
  rcases h with rfl | ⟨t', d', s', rfl⟩ <;> simp
theorem fit_one (t d r : Int) (s : ByteArray) : fitE [⟨nmX, t, d, s⟩] nmX t r = if d ≤ r then some s else none := by
  simp [fitE, findE]
theorem fit_old (t d r : Int) (s : ByteArray) : fitE [⟨nmX, t, d, s⟩] nmX (t - 1) r = none := by
  simp only [fitE, findE]
  rw [List.find?_cons_of_pos (by simp)]
  exact if_neg (fun h => by have := h.1; simp only at this; omega)
theorem fit_other (t d r u : Int) (s : ByteArray) : fitE [⟨nmX, t, d, s⟩] nmY u r = none := by
  have : findE [⟨nmX, t, d, s⟩] nmY = none := by
    unfold findE
    have hn : decide (nmX = nmY) = false := by decide
    simp only [List.find?_cons, hn, List.find?_nil]
  unfold fitE
  rw [this]

theorem get_one {base : Nat} {w0 w : World} {cb n : Nat} {M h t d : Int} {s : ByteArray} {bm : Nat} (hA : At base w0 w cb n M h [⟨nmX, t, d, s⟩] bm) (r : Int) :
    Calls Try.prog 19 #[.pointer (some ⟨cb, 0, none⟩), .string nmX, .int .i64 t, .int .i64 r] w fun y w' => y = .returned (.tuple #[.string (if d ≤ r then s else ⟨#[]⟩), .bool (decide (d ≤ r))]) ∧ At base w0 w' cb n M (if d ≤ r then wrap64 (h + 1) else h) [⟨nmX, t, d, s⟩] bm := by
  have := get_at hA nmX t r nmX_le
  rw [fit_one] at this
  by_cases hd : d ≤ r
  · rw [if_pos hd] at this
    rw [if_pos hd, if_pos hd, decide_eq_true hd]
    exact this
  · rw [if_neg hd] at this
    rw [if_neg hd, if_neg hd, decide_eq_false hd]
    exact this

set_option maxHeartbeats 4000000 in
set_option maxRecDepth 100000 in
theorem memoTurns_any (a0 : Option Addr) (len0 cap0 : Nat) (z0 : List Int) (a1 : Int) (w : World)
    (hidx : ∀ k, k < len0 → ∃ b off, a0 = some ⟨b, off, none⟩ ∧ b < w.heap.size ∧ ∀ j, j < len0 → w.cell? ⟨b, off + j, none⟩ = some (.int .i64 (z0.getD j 0))) :
    Calls Try.prog 6 #[.slice a0 len0 cap0, .int .i64 a1] w fun e w' => e = .returned (.bool true) ∧ Below w.heap.size w w' := by
  have HIDX := Lib.hid hidx
  clear hidx
  go_enter Try.func6, Try.ntmps6
  go_wp2_with (go_at_call 12; refine (new_at 3 _ 3 (by decide)).mono ?_; rintro e w1 ⟨cb, bm, rfl, hA⟩; have HA0 := Lib.hid hA; clear hA)
  go_loopw [6, 7, 8] (fun v6 v7 v8 wr => ∃ (k : Nat) (turn hits : Int) (E : List Ent), k ≤ 40 ∧ v8 = .int .i64 k ∧ v6 = .int .i64 turn ∧ v7 = .int .i64 hits ∧ (0 ≤ turn ∧ turn ≤ 2 * k) ∧ (0 ≤ hits ∧ hits ≤ k) ∧ Hid (One E) ∧ Hid (At w.heap.size w wr cb k 3 hits E bm))
    (fun _ _ i _ => 40 - (intOf i).toNat)
  case atStart => exact ⟨0, 0, 0, [], by omega, rfl, rfl, rfl, by omega, by omega, Or.inl rfl, HA0.out⟩
  case round =>
    obtain ⟨k, turn, hits, E, hk, rfl, rfl, rfl, ht, hh, HE, HA⟩ := hrel
    by_cases hin : k < len0 ∧ k < 40
    · obtain ⟨b, off, rfl, hb, hcell⟩ := HIDX.out k hin.1
      have hcx := (HA.out.2.cell (p := ⟨b, off + k, none⟩) (by exact hb)).trans (hcell k hin.1)
      have hk1 := hin.1
      have hk2 := hin.2
      have HCELL := Lib.hid hcell
      clear hcell hin
      have T1 : Hid True := trivial
      have T2 : Hid True := trivial
      have T3 : Hid True := trivial
      have T4 : Hid True := trivial
      have T5 : Hid True := trivial
      have T6 : Hid True := trivial
      go_wp2_with (first
        | (clear T1; go_at_call 16; refine (place_any _ 60 (by decide) (by decide) _).mono ?_; rintro e w2 ⟨q, hq, hq1, rfl, hbq⟩; have A1 := Lib.hid (HA.out.later hbq); have hwt : wrap64 (turn + Int.tmod (q : Int) 3) = turn + Int.tmod (q : Int) 3 := (by have h1 := Int.tmod_lt_of_pos (q : Int) (show (0 : Int) < 3 by decide); have h2 := Int.tmod_nonneg 3 (show 0 ≤ (q : Int) by omega); unfold wrap64; omega); have hwt2 : wrap64 (turn + Int.tmod (q : Int) 3 - 1) = turn + Int.tmod (q : Int) 3 - 1 := (by have h1 := Int.tmod_lt_of_pos (q : Int) (show (0 : Int) < 3 by decide); have h2 := Int.tmod_nonneg 3 (show 0 ≤ (q : Int) by omega); unfold wrap64; omega); have hbd : 0 ≤ Int.tmod (q : Int) 3 ∧ Int.tmod (q : Int) 3 < 3 := ⟨Int.tmod_nonneg 3 (show 0 ≤ (q : Int) by omega), Int.tmod_lt_of_pos (q : Int) (by decide)⟩; have HBD := Lib.hid hbd; clear hq hbq hbd)
        | (clear T2; go_at_call 17; refine (dig_at A1.out k (by omega)).mono ?_; rintro e w3 ⟨rfl, hA⟩; have A2 := Lib.hid hA; clear hA)
        | (go_at_call 18; refine (put_at A2.out nmX _ _ _ nmX_le (by unfold maxLen; omega) (one_len HE.out) (by decide) _ (put_one HE.out _ _ _)).mono ?_; rintro e w4 ⟨rfl, hA⟩; have A3 := Lib.hid hA; clear hA)
        | (clear T3; go_at_call 16; refine (place_any _ 20 (by decide) (by decide) _).mono ?_; rintro e w5 ⟨r, hr, hr1, rfl, hbr⟩; have A4 := Lib.hid (A3.out.later hbr); clear hr hbr)
        | (clear T4; go_at_call 19; refine (get_one A4.out (r : Int)).mono ?_; rintro e w6 ⟨rfl, hA⟩; have A5 := Lib.hid hA; clear hA)
        | (clear T5; go_at_call 19; refine (get_at_none A5.out nmX _ 99 nmX_le (fit_old _ _ _ _)).mono ?_; rintro e w7 ⟨rfl, hA⟩; have A6 := Lib.hid hA; clear hA)
        | (clear T6; go_at_call 19; refine (get_at_none A6.out nmY _ 99 nmY_le (fit_other _ _ _ _ _)).mono ?_; rintro e w8 ⟨rfl, hA⟩; have A7 := Lib.hid hA; clear hA)
        | (clear A1; go_at_call 17; refine (dig_at A7.out k (by omega)).mono ?_; rintro e w9 ⟨rfl, hA⟩; have A8 := Lib.hid hA; clear hA)
        | (go_at_call 20; first | (refine (len_at A8.out).mono ?_; rintro e w10 ⟨rfl, rfl⟩) | (refine (len_at A7.out).mono ?_; rintro e w10 ⟨rfl, rfl⟩)))
      · have hb1 := HBD.out
        refine ⟨⟨k + 1, turn + (q : Int) % 3, hits + 1, [⟨nmX, turn + (q : Int) % 3, (q : Int) / 3, dig k⟩], by omega, by simp, rfl, rfl, by omega, by omega, Or.inr ⟨_, _, _, rfl⟩, ?_⟩, by simp [intOf]; omega⟩
        have h8 := A8.out
        have hw : wrap64 (hits + 1) = hits + 1 := by unfold wrap64; omega
        rw [if_pos (show (q : Int) / 3 ≤ (r : Int) by assumption), hw] at h8
        exact h8
      · have hb1 := HBD.out
        refine ⟨⟨k + 1, turn + (q : Int) % 3, hits, [⟨nmX, turn + (q : Int) % 3, (q : Int) / 3, dig k⟩], by omega, by simp, rfl, rfl, by omega, by omega, Or.inr ⟨_, _, _, rfl⟩, ?_⟩, by simp [intOf]; omega⟩
        have h7 := A7.out
        rw [if_neg (by omega)] at h7
        exact h7
    · have hout : len0 ≤ k ∨ (k < len0 ∧ 40 ≤ k) := by omega
      rcases hout with h1 | ⟨h1, h2⟩
      all_goals
        go_wp2_with (first
          | (go_at_call 12; refine (new_at (-3) _ 0 (by decide)).mono ?_; rintro e w2 ⟨cb2, bm2, rfl, hA⟩; have B1 := Lib.hid hA; clear hA)
          | (go_at_call 18; refine (put_at B1.out nmX 1 1 nmY nmX_le (by decide) (by decide) (by decide) [] rfl).mono ?_; rintro e w3 ⟨rfl, hA⟩; have B2 := Lib.hid hA; clear hA)
          | (go_at_call 19; refine (get_at_none B2.out nmX 1 9 nmX_le rfl).mono ?_; rintro e w4 ⟨rfl, hA⟩; have B3 := Lib.hid hA; clear hA)
          | (go_at_call 20; refine (len_at B3.out).mono ?_; rintro e w5 ⟨rfl, rfl⟩)
          | (go_at_call 21; refine (hits_at (HA.out.later B3.out.2)).mono ?_; rintro e w6 ⟨rfl, rfl⟩)
          | (go_at_call 14; refine (awake_at (HA.out.later B3.out.2)).mono ?_; rintro e w7 ⟨rfl, hA⟩; have B4 := Lib.hid hA; clear hA))
        go_ret
        exact ⟨rfl, B4.out.2⟩

theorem memoTurns_walk (a0 : Option Addr) (len0 cap0 : Nat) (z0 : List Int) (a1 : Int) (w : World)
    (w0 : (a0 = none ∧ len0 = 0 ∧ cap0 = 0 ∧ z0 = []) ∨ ∃ x, a0 = some x ∧ len0 ≤ cap0 ∧ cap0 ≤ maxLen ∧ z0.length = cap0 ∧ (∀ i, i < z0.length → w.cell? (x.add i) = some (.int .i64 (z0.getD i 0))) ∧ ∀ n ∈ z0, (Lit.int .i64 n).wf = true) (_w1 : (Lit.int .i64 a1).wf = true) :
    Calls Try.prog 6 #[.slice a0 len0 cap0, .int .i64 a1] w fun e w' => e = .returned (.bool true) ∧ Below w.heap.size w w' := by
  refine memoTurns_any a0 len0 cap0 z0 a1 w (fun k hk => ?_)
  rcases w0 with ⟨_, h, _⟩ | ⟨x, hx, h1, h2, h3, h4, _⟩
  · omega
  · have hsp : x.spot = none := World.cell?_spot (h4 0 (by omega))
    obtain ⟨b, off, sp⟩ := x
    simp only at hsp
    subst hsp
    have hc : ∀ j, j < len0 → w.cell? ⟨b, off + j, none⟩ = some (.int .i64 (z0.getD j 0)) := fun j hj => by
      have e : (⟨b, off, none⟩ : Addr).add j = ⟨b, off + j, none⟩ := by
        unfold Addr.add
        split
        · rename_i h0; rw [h0]; rfl
        · rfl
      rw [← e]
      exact h4 j (by omega)
    refine ⟨b, off, hx, Decidable.byContradiction fun hn => ?_, hc⟩
    have := hc 0 (by omega)
    rw [show w.cell? ⟨b, off + 0, none⟩ = none by simp [World.cell?, Array.getElem?_eq_none (show w.heap.size ≤ b by omega)]] at this
    cases this
end Go.Proofs.Ytabdjijlmiobhaa.G
