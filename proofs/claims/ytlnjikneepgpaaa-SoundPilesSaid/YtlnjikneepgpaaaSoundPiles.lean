/- wainwrightlaw13.SoundPiles: the walk of the law, for every number and every list: pushes and joins, counted. -/
import Derived.Test.YtlnjikneepgpaaaSoundRow
import Derived.LoopTactic
import Derived.OwnWalk
namespace Go.Proofs.Ytlnjikneepgpaaa.Pure
open Go.RowKit Go.Proofs.Ytlnjikneepgpaaa.P Go.Proofs.Ytlnjikneepgpaaa.G Go.Proofs.Ytlnjikneepgpaaa.P0 Go.Proofs.YtlnjikneepgpaaaW.PrintWords Go.Proofs.YtlnjikneepgpaaaW.PrintLast Go.Proofs.YtlnjikneepgpaaaW.PrintMore
set_option linter.unusedVariables false
set_option linter.unusedSimpArgs false

/-- Joins of so many, from a pile on: may they be; what is left. -/
def okJ : Int → List Int → Bool
  | _, [] => true
  | n, j :: r => decide (j ≤ n) && okJ (n - j + 1) r
def endJ : Int → List Int → Int
  | n, [] => n
  | n, j :: r => endJ (n - j + 1) r
theorem okJ_snoc : ∀ (js : List Int) (n j : Int), okJ n (js ++ [j]) = (okJ n js && decide (j ≤ endJ n js))
  | [], n, j => by
    show (decide (j ≤ n) && true) = (true && decide (j ≤ n))
    rw [Bool.and_true, Bool.true_and]
  | q :: r, n, j => by
    show (decide (q ≤ n) && okJ (n - q + 1) (r ++ [j])) = ((decide (q ≤ n) && okJ (n - q + 1) r) && decide (j ≤ endJ (n - q + 1) r))
    rw [okJ_snoc r, Bool.and_assoc]
theorem endJ_snoc : ∀ (js : List Int) (n j : Int), endJ n (js ++ [j]) = endJ n js - j + 1
  | [], n, j => rfl
  | q :: r, n, j => by simp only [List.cons_append, endJ]; exact endJ_snoc r _ j
theorem endJ_bound : ∀ (js : List Int) (n : Int), (∀ j ∈ js, 0 ≤ j ∧ j < 8) → n - 7 * js.length ≤ endJ n js ∧ endJ n js ≤ n + js.length
  | [], n, _ => by simp [endJ]
  | q :: r, n, h => by
    have h1 := h q (by simp)
    have := endJ_bound r (n - q + 1) (fun j hj => h j (List.mem_cons_of_mem _ hj))
    simp only [endJ, List.length_cons]
    omega
def joinsOf (js : List Int) : List (Int × Int) := js.map fun j => (4, j)
theorem run_joins (a1 a2 : Int) : ∀ (js : List Int) (n most : Int), (∀ j ∈ js, 0 ≤ j) → n ≤ most →
    ∃ m, most ≤ m ∧ runS a1 a2 (opsOf (joinsOf js)) n most = if okJ n js = true ∧ endJ n js = 1 then some m else none
  | [], n, most, _, h => by
    refine ⟨most, Int.le_refl _, ?_⟩
    by_cases hn : n = 1 <;> simp [runS, opsOf, joinsOf, okJ, endJ, hn]
  | q :: r, n, most, hj, h => by
    have hq := hj q (by simp)
    show ∃ m, most ≤ m ∧ runS a1 a2 (opOf (4, q) :: opsOf (joinsOf r)) n most = _
    simp only [runS, op_join a1 a2 q hq, okJ, endJ]
    by_cases hle : q ≤ n
    · rw [if_pos ⟨trivial, hle⟩]
      have e1 : n + (1 - q) = n - q + 1 := by omega
      rw [e1]
      have hmx : n - q + 1 ≤ mx most (n - q + 1) ∧ most ≤ mx most (n - q + 1) := by unfold mx; split <;> omega
      obtain ⟨m, hm, hr⟩ := run_joins a1 a2 r (n - q + 1) (mx most (n - q + 1)) (fun j hh => hj j (List.mem_cons_of_mem _ hh)) hmx.1
      exact ⟨m, by omega, by rw [hr]; simp [hle]⟩
    · rw [if_neg (fun hh => hle hh.2)]
      exact ⟨most, Int.le_refl _, by simp [hle]⟩

def pilesOf (K : Nat) (js : List Int) : List (Int × Int) := List.replicate K (1, 0) ++ joinsOf js
theorem pilesOf_len (K : Nat) (js : List Int) : (pilesOf K js).length = K + js.length := by simp [pilesOf, joinsOf]
theorem piles_ops (K : Nat) (js : List Int) : opsS [opsOf (pilesOf K js)] = K + js.length := by
  simp [opsS, opsOf_len, pilesOf_len]
theorem piles_check (K : Nat) (js : List Int) (hK : K < 30) (hl : js.length ≤ 10) (hj : ∀ j ∈ js, 0 ≤ j ∧ j < 8) :
    (checkS [opsOf (pilesOf K js)]).2 = (okJ K js && (endJ K js == 1)) ∧ decide ((K : Int) ≤ (checkS [opsOf (pilesOf K js)]).1) = (okJ K js && (endJ K js == 1) || decide ((K : Int) = 0)) := by
  rw [one_block _ (by rw [piles_ops]; omega)]
  have e : opsOf (pilesOf K js) = opsOf (List.replicate K (1, 0)) ++ opsOf (joinsOf js) := by simp [opsOf, pilesOf]
  rw [e, run_push 0 1 _ K 0 (Int.le_refl _), Int.zero_add]
  obtain ⟨m, hm, hr⟩ := run_joins 0 1 js K K (fun j h => (hj j h).1) (Int.le_refl _)
  rw [hr]
  by_cases h : okJ K js = true ∧ endJ K js = 1
  · rw [if_pos h, h.1, h.2]
    simp [hm]
  · rw [if_neg h]
    have hf : (okJ K js && (endJ K js == 1)) = false := by
      cases ho : okJ K js
      · rfl
      · have : ¬ endJ K js = 1 := fun hh => h ⟨ho, hh⟩
        simp [this]
    rw [hf]
    refine ⟨rfl, ?_⟩
    simp only [Bool.false_or]
    by_cases hK : K = 0
    · subst hK; rfl
    · rw [decide_eq_false (by omega), decide_eq_false (by omega)]

set_option maxHeartbeats 8000000 in
set_option maxRecDepth 100000 in
theorem soundPiles_any (a0 : Int) (a1 : Option Addr) (len1 cap1 : Nat) (z1 : List Int) (w : World)
    (hidx : ∀ k, k < len1 → ∃ b off, a1 = some ⟨b, off, none⟩ ∧ b < w.heap.size ∧ ∀ j, j < len1 → w.cell? ⟨b, off + j, none⟩ = some (.int .i64 (z1.getD j 0))) :
    Calls Try.prog 8 #[.int .i64 a0, .slice a1 len1 cap1] w fun e w' => e = .returned (.bool true) ∧ Below w.heap.size w w' := by
  have HIDX := Lib.hid hidx
  clear hidx
  obtain ⟨i0, hi, hz0, hz1, hz2⟩ := info_parts info44
  go_enter Try.func8, Try.ntmps8
  go_wp2_with (go_at_call 27; refine (place_any a0 30 (by decide) (by decide) _).mono ?_; rintro e w1 ⟨K, _, hK1, rfl, hb1⟩; have HB1 := Lib.hid hb1; clear hb1)
  go_loopw [6, 7] (fun v6 v7 wr => ∃ k : Nat, k ≤ K ∧ v7 = .int .i64 k ∧ Hid (wr.ownsRow w.heap.size 44 4 v6 k (rowV (List.replicate k (1, 0)))) ∧ Hid (Below w.heap.size w wr)) (fun _ i _ => K - (intOf i).toNat)
  case atStart => exact ⟨0, Nat.zero_le _, rfl, World.ownsRow_nil _ _ _ _, HB1⟩
  case round =>
    obtain ⟨k, hk, rfl, HO, HB⟩ := hrel
    by_cases hin : k < K
    · go_wp2_with (at_builtin; refine wpList_append_own _ rfl _ _ 42 rfl w.heap.size 44 i0 _ 4 56 Try.underlying42 hi hz0 hz1 hz2 rfl (by decide) _ _ _ rfl (HO.out.alloc _) ⟨wr.heap.size, 0, none⟩ 1 1 (opV (1, 0)) rfl rfl (cells_new _ _ _) (opV_one _) (by unfold maxLen; omega) (by omega) (by have := HB.out.size; simp; omega) ?_; intro v1 w2 hown1 hgr1 _; have HO1 := Lib.hid hown1; have HG1 := Lib.hid hgr1; clear hown1 hgr1)
      go_roundw
      case rel =>
        refine ⟨k + 1, by omega, by go_num, ?_, ?_⟩
        · rw [show List.replicate (k + 1) ((1 : Int), (0 : Int)) = List.replicate k (1, 0) ++ [(1, 0)] from List.replicate_succ', rowV_snoc]
          exact HO1.out
        · exact (HB.out.alloc HB.out.size _).grown HG1.out (by have := HB.out.size; simp; omega) (fun j hj => (HO.out.lt j hj).1)
      case measure => simp [intOf]; omega
    · obtain rfl : k = K := by omega
      clear hin
      go_wp2
      have HO2 : Hid (wr.ownsRow w.heap.size 44 4 u6 (k + ([] : List Int).length) (rowV (pilesOf k []))) := Lib.hid (by simpa [pilesOf, joinsOf] using HO.out)
      clear HO
      obtain ⟨wo, rfl⟩ : ∃ wo : World, wo = wr := ⟨_, rfl⟩
      go_loopw [6, 8, 9, 10] (fun v6 v8 v9 v10 ws => ∃ (i : Nat) (js : List Int), js.length = i ∧ i ≤ 10 ∧ v10 = .int .i64 i ∧ v8 = .int .i64 (endJ k js) ∧ v9 = .bool (okJ k js) ∧ Hid (∀ j ∈ js, 0 ≤ j ∧ j < 8) ∧ Hid (ws.ownsRow w.heap.size 44 4 v6 (k + js.length) (rowV (pilesOf k js))) ∧ Hid (Below w.heap.size w ws)) (fun _ _ _ i _ => 10 - (intOf i).toNat)
      case atStart => exact ⟨0, [], rfl, by omega, rfl, rfl, rfl, fun j h => absurd h (by simp), HO2, HB⟩
      case round =>
        obtain ⟨i, js, hjs, hi10, rfl, rfl, rfl, HJ, HO, HB3⟩ := hrel
        obtain ⟨hb1, hb2⟩ := endJ_bound js k HJ.out
        obtain ⟨N, hN⟩ : ∃ N, N = endJ k js := ⟨_, rfl⟩
        obtain ⟨ok, hok⟩ : ∃ ok, ok = okJ k js := ⟨_, rfl⟩
        rw [← hN] at hb1 hb2
        have HN := Lib.hid hN
        have HOK := Lib.hid hok
        rw [← hN, ← hok]
        have HL := Lib.hid hjs
        have hjl : js.length ≤ 10 := by omega
        clear hN hok
        by_cases hin : i < len1 ∧ i < 10
        · obtain ⟨b, off, rfl, hbz, hcell⟩ := HIDX.out i hin.1
          have hcx := (HB3.out.cell (p := ⟨b, off + i, none⟩) (by exact hbz)).trans (hcell i hin.1)
          have hk1 := hin.1
          have hk2 := hin.2
          clear hcell hin hjs
          cases ok
          all_goals
            go_wp2_with (first
              | (go_at_call 27; refine (place_any _ 8 (by decide) (by decide) _).mono ?_; rintro e w2 ⟨q, _, hq1, rfl, hbq⟩; have HB4 := Lib.hid (HB3.out.trans (hbq.mono HB3.out.size)); have HO4 := Lib.hid (HO.out.kept (row := none) ⟨hbq.os, hbq.tape, hbq.output, hbq.size, fun m hm _ => hbq.block m hm⟩ (by cases hq : (u6 : Value).ownBlock <;> simp)); clear hbq)
              | (at_builtin; refine wpList_append_own _ rfl _ _ 42 rfl w.heap.size 44 i0 _ 4 56 Try.underlying42 hi hz0 hz1 hz2 rfl (by decide) _ _ _ rfl (HO4.out.alloc _) ⟨w2.heap.size, 0, none⟩ 1 1 (opV (4, (q : Int))) rfl rfl (cells_new _ _ _) (opV_one _) (by unfold maxLen; omega) (by omega) (by have := HB4.out.size; simp; omega) ?_; intro v1 w3 hown1 hgr1 _; have HO5 := Lib.hid hown1; have HG5 := Lib.hid hgr1; clear hown1 hgr1))
          all_goals
            refine ⟨⟨i + 1, js ++ [(q : Int)], by rw [List.length_append, HL.out]; rfl, by omega, by go_num, by rw [endJ_snoc, ← HN.out], by rw [okJ_snoc, ← HOK.out, ← HN.out]; rfl, ?_, ?_, ?_⟩, by simp [intOf]; omega⟩
            · intro j hj
              rcases List.mem_append.mp hj with hj | hj
              · exact HJ.out j hj
              · obtain rfl : j = (q : Int) := by simpa using hj
                omega
            · rw [show pilesOf k (js ++ [(q : Int)]) = pilesOf k js ++ [(4, (q : Int))] by simp [pilesOf, joinsOf], rowV_snoc, List.length_append]
              exact HO5.out
            · exact (HB4.out.alloc HB4.out.size _).grown HG5.out (by have := HB4.out.size; simp; omega) (fun j hj => (HO4.out.lt j hj).1)
        · have hpc := piles_check k js (by omega) hjl HJ.out
          rw [← HN.out, ← HOK.out] at hpc
          obtain ⟨A, c, rfl, hlc, hC⟩ := row_D (xs := pilesOf k js) (by rw [pilesOf_len]) HO.out
          have hG := good_ops (pilesOf k js) (by rw [pilesOf_len]; omega)
          obtain ⟨l, hl⟩ : ∃ l, l = opsOf (pilesOf k js) := ⟨_, rfl⟩
          obtain ⟨⟨D, cb⟩, hq⟩ : ∃ q, q = checkS [l] := ⟨_, rfl⟩
          rw [← hl] at hpc hlc hC hG ⊢
          rw [← hq] at hpc
          obtain ⟨hp1, hp2⟩ := hpc
          simp only at hp1 hp2
          have HC := Lib.hid hC
          have HG := Lib.hid hG
          have HQ := Lib.hid hq.symm
          have HLC := Lib.hid hlc
          have T1 : Hid True := trivial
          clear hC hG hq hl hlc HO HN HOK HL hjs
          have hout : len1 ≤ i ∨ (i < len1 ∧ 10 ≤ i) := by omega
          clear hin
          have hcase : (ok = true ∧ N = 1 ∧ cb = true ∧ (k : Int) ≤ D) ∨ (ok = false ∧ cb = false ∧ ((k : Int) == 0) = true ∧ (k : Int) ≤ D) ∨ (ok = false ∧ cb = false ∧ ((k : Int) == 0) = false ∧ D < (k : Int)) ∨ (ok = true ∧ (N == 1) = false ∧ cb = false ∧ ((k : Int) == 0) = true ∧ (k : Int) ≤ D) ∨ (ok = true ∧ (N == 1) = false ∧ cb = false ∧ ((k : Int) == 0) = false ∧ D < (k : Int)) := by
            cases ok
            · simp only [Bool.false_and, Bool.false_or, decide_eq_decide] at hp1 hp2
              by_cases hk0 : k = 0
              · exact Or.inr (Or.inl ⟨rfl, hp1, beq_iff_eq.mpr (by omega), hp2.mpr (by omega)⟩)
              · exact Or.inr (Or.inr (Or.inl ⟨rfl, hp1, beq_eq_false_iff_ne.mpr (by omega), by by_cases h : (k : Int) ≤ D; exact absurd (hp2.mp h) (by omega); omega⟩))
            · by_cases h1 : N = 1
              · subst h1
                simp at hp1 hp2
                exact Or.inl ⟨rfl, rfl, hp1, hp2⟩
              · have hn1 : (N == 1) = false := beq_eq_false_iff_ne.mpr h1
                rw [hn1] at hp1 hp2
                simp only [Bool.and_false, Bool.false_or, decide_eq_decide] at hp1 hp2
                by_cases hk0 : k = 0
                · exact Or.inr (Or.inr (Or.inr (Or.inl ⟨rfl, hn1, hp1, beq_iff_eq.mpr (by omega), hp2.mpr (by omega)⟩)))
                · exact Or.inr (Or.inr (Or.inr (Or.inr ⟨rfl, hn1, hp1, beq_eq_false_iff_ne.mpr (by omega), by by_cases h : (k : Int) ≤ D; exact absurd (hp2.mp h) (by omega); omega⟩)))
          clear hp1 hp2
          rcases hout with ho | ⟨ho1, ho2⟩
          all_goals
            rcases hcase with ⟨rfl, rfl, rfl, hKD⟩ | ⟨rfl, rfl, hk0, hKD⟩ | ⟨rfl, rfl, hk0, hKD⟩ | ⟨rfl, hn1, rfl, hk0, hKD⟩ | ⟨rfl, hn1, rfl, hk0, hKD⟩
          all_goals
            go_wp2_with (first
              | (clear T1; go_at_call 30; refine (check_one HQ.out HG.out _ A c HC.out HLC.out).mono ?_; rintro e w4 ⟨rfl, hb4⟩; have HB4 := Lib.hid (HB3.out.trans (hb4.mono HB3.out.size)); have HC4 := Lib.hid (Kd.C_below HC.out hb4); clear hb4)
              | (go_at_call 32; refine (depth_one HQ.out HG.out _ A c HC4.out HLC.out).mono ?_; rintro e w5 ⟨rfl, hb5⟩; have HB5 := Lib.hid (HB4.out.trans (hb5.mono HB4.out.size)); clear hb5)
              | (go_at_call 29; refine (awake13 _).mono ?_; rintro e w6 ⟨rfl, hb6⟩; have HB6 := Lib.hid (HB5.out.trans (hb6.mono HB5.out.size)); clear hb6))
            go_ret
            exact ⟨by first | rfl | (show Ending.returned (.bool (!decide ((k : Int) ≤ D))) = _; rw [decide_eq_false (by omega)]; rfl), HB6.out⟩

theorem soundPiles_walk (a0 : Int) (a1 : Option Addr) (len1 cap1 : Nat) (z1 : List Int) (w : World) (_w0 : (Lit.int .i64 a0).wf = true)
    (w1 : (a1 = none ∧ len1 = 0 ∧ cap1 = 0 ∧ z1 = []) ∨ ∃ x, a1 = some x ∧ len1 ≤ cap1 ∧ cap1 ≤ maxLen ∧ z1.length = cap1 ∧ (∀ i, i < z1.length → w.cell? (x.add i) = some (.int .i64 (z1.getD i 0))) ∧ ∀ n ∈ z1, (Lit.int .i64 n).wf = true) :
    Calls Try.prog 8 #[.int .i64 a0, .slice a1 len1 cap1] w fun e w' => e = .returned (.bool true) ∧ Below w.heap.size w w' := by
  refine soundPiles_any a0 a1 len1 cap1 z1 w (fun k hk => ?_)
  rcases w1 with ⟨_, h, _⟩ | ⟨x, hx, h1, h2, h3, h4, _⟩
  · omega
  · have hsp : x.spot = none := World.cell?_spot (h4 0 (by omega))
    obtain ⟨b, off, sp⟩ := x
    simp only at hsp
    subst hsp
    have hc : ∀ j, j < len1 → w.cell? ⟨b, off + j, none⟩ = some (.int .i64 (z1.getD j 0)) := fun j hj => by
      have e : (⟨b, off, none⟩ : Addr).add j = ⟨b, off + j, none⟩ := by
        unfold Addr.add
        split
        · rename_i h0; rw [h0]; rfl
        · rfl
      rw [← e]
      exact h4 j (by omega)
    refine ⟨b, off, hx, Decidable.byContradiction fun hn => ?_, hc⟩
    have := hc 0 (by omega)
    rw [show w.cell? ⟨b, off + 0, none⟩ = none by simp [World.cell?, Array.getElem?_eq_none (show w.heap.size ≤ b by omega)]] at this
    cases this
end Go.Proofs.Ytlnjikneepgpaaa.Pure
