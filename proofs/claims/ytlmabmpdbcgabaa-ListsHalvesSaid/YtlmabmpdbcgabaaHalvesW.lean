/- wainwrightlaw05.ListsHalves: the walk of the law, for all lists of numbers. -/
import Derived.Test.YtlmabmpdbcgabaaHalvesBase
import Derived.WalkLawsBesides
namespace Go.Proofs.Ytlmabmpdbcgabaa.G
open Go.RowKit Go.Sort Go.Proofs.Ytlmabmpdbcgabaa.P Go.Proofs.YtlmabmpdbcgabaaW.PrintWords Go.Proofs.Ytlmabmpdbcgabaa.Pure

theorem keep_app (ps : List Pat) (out : Bool) (a b : List ByteArray) : keepB ps out (a ++ b) = keepB ps out a ++ keepB ps out b := by
  unfold keepB; rw [List.filter_append]
theorem keep_at {ps : List Pat} {out : Bool} {l : List ByteArray} {k : Nat} {s : ByteArray} (hs : l[k]? = some s) (h : (anyP ps s != out) = true) : (keepB ps out l)[(keepB ps out (l.take k)).length]? = some s := by
  have e : keepB ps out l = keepB ps out (l.take k) ++ keepB ps out (l.drop k) := by rw [← keep_app, List.take_append_drop]
  rw [e, List.getElem?_append_right (Nat.le_refl _), Nat.sub_self, drop_at hs]
  unfold keepB
  rw [List.filter_cons_of_pos (p := fun s => anyP ps s != out) h]; rfl
theorem keep_no {ps : List Pat} {l : List ByteArray} {s y : ByteArray} {i : Nat} (hn : anyP ps s = false) (hy : (keepB ps false l)[i]? = some y) : ¬ y = s := by
  rintro rfl
  have := (List.mem_filter.mp (List.mem_of_getElem? hy)).2
  rw [hn] at this; cases this
theorem ne_list {a b : ByteArray} (h : ¬ a = b) : (a.toList == b.toList) = false := by
  rw [Bool.eq_false_iff]; intro hh
  have := eq_of_beq hh
  rw [Lib.toList_data, Lib.toList_data] at this
  exact h (ByteArray.ext (Array.toList_inj.mp this))
theorem idx_ints {a1 : Option Addr} {len1 cap1 : Nat} {z1 : List Int} {w : World}
    (w1 : (a1 = none ∧ len1 = 0 ∧ cap1 = 0 ∧ z1 = []) ∨ ∃ x, a1 = some x ∧ len1 ≤ cap1 ∧ cap1 ≤ maxLen ∧ z1.length = cap1 ∧ (∀ i, i < z1.length → w.cell? (x.add i) = some (.int .i64 (z1.getD i 0))) ∧ ∀ n ∈ z1, (Lit.int .i64 n).wf = true)
    (k : Nat) (hk : k < len1) : ∃ b off, a1 = some ⟨b, off, none⟩ ∧ b < w.heap.size ∧ ∀ j, j < len1 → w.cell? ⟨b, off + j, none⟩ = some (.int .i64 (z1.getD j 0)) := by
  rcases w1 with ⟨_, h, _⟩ | ⟨x, hx, h1, h2, h3, h4, _⟩
  · omega
  · have hsp : x.spot = none := World.cell?_spot (h4 0 (by omega))
    obtain ⟨b, off, sp⟩ := x
    simp only at hsp
    subst hsp
    have hc : ∀ j, j < len1 → w.cell? ⟨b, off + j, none⟩ = some (.int .i64 (z1.getD j 0)) := fun j hj => by
      rw [← add_any]
      exact h4 j (by omega)
    refine ⟨b, off, hx, Decidable.byContradiction fun hn => ?_, hc⟩
    have := hc 0 (by omega)
    rw [show w.cell? ⟨b, off + 0, none⟩ = none by simp [World.cell?, Array.getElem?_eq_none (show w.heap.size ≤ b by omega)]] at this
    cases this

theorem keep_len_step (ps : List Pat) (out : Bool) {l : List ByteArray} {k : Nat} {s : ByteArray} (hs : l[k]? = some s) (b : Bool) (hb : (anyP ps s != out) = b) : (keepB ps out (l.take (k + 1))).length = (keepB ps out (l.take k)).length + (if b then 1 else 0) := by
  rw [keepB_step ps out hs, hb]
  cases b <;> simp
theorem cell_z {w wz : World} {q : Nat} (h : wz = w.drewN q) (p : Addr) : wz.cell? p = w.cell? p := by rw [h]; rfl

/-- Few short texts. -/
def Tiny (l : List ByteArray) : Prop := ∀ s ∈ l, s.size ≤ 9
theorem Tiny.snoc {l : List ByteArray} {s : ByteArray} (h : Tiny l) (hs : s.size ≤ 9) : Tiny (l ++ [s]) := by
  intro x hx
  rcases List.mem_append.mp hx with hx | hx
  · exact h x hx
  · obtain rfl : x = s := by simpa using hx
    exact hs
theorem Tiny.small {l : List ByteArray} (h : Tiny l) (hl : l.length ≤ 1000) : Small l := ⟨hl, fun s hs => by have := h s hs; omega⟩

set_option maxHeartbeats 8000000 in
set_option maxRecDepth 100000 in
theorem halves_any (a0 : Option Addr) (len0 cap0 : Nat) (z0 : List Int) (a1 : Option Addr) (len1 cap1 : Nat) (z1 : List Int) (a2 : Int) (w : World)
    (hidx0 : ∀ k, k < len0 → ∃ b off, a0 = some ⟨b, off, none⟩ ∧ b < w.heap.size ∧ ∀ j, j < len0 → w.cell? ⟨b, off + j, none⟩ = some (.int .i64 (z0.getD j 0)))
    (hidx1 : ∀ k, k < len1 → ∃ b off, a1 = some ⟨b, off, none⟩ ∧ b < w.heap.size ∧ ∀ j, j < len1 → w.cell? ⟨b, off + j, none⟩ = some (.int .i64 (z1.getD j 0))) :
    Calls Try.prog 4 #[.slice a0 len0 cap0, .slice a1 len1 cap1, .int .i64 a2] w fun e w' => e = .returned (.bool true) ∧ Below w.heap.size w w' := by
  obtain ⟨i0, hi, hz0, hz1, hz2⟩ := info_parts info_str
  have HI0 := Lib.hid hidx0
  have HI1 := Lib.hid hidx1
  clear hidx0 hidx1
  go_enter Try.func4, Try.ntmps4
  go_wp2
  go_loopw [7, 9] (fun v i wr => ∃ (k : Nat) (ws : List ByteArray), k ≤ 40 ∧ i = .int .i64 k ∧ ws.length = k ∧ Hid (Tiny ws) ∧ Hid (Row wr w.heap.size v ws) ∧ Hid (Below w.heap.size w wr)) (fun _ i _ => 40 - (intOf i).toNat)
  case atStart => exact ⟨0, [], by omega, rfl, rfl, Lib.hid (fun s hs => absurd hs (by simp)), Lib.hid (Row.nil _ _), Lib.hid (Below.refl _ _)⟩
  case round =>
    obtain ⟨k, ws, hk, rfl, hlen, HT, HR, HB⟩ := hrel
    have HLEN := Lib.hid hlen
    clear hlen
    by_cases hin : k < len0 ∧ k < 40
    · obtain ⟨b, off, rfl, hbz, hcell⟩ := HI0.out k hin.1
      have hcx := (HB.out.cell (p := ⟨b, off + k, none⟩) (by exact hbz)).trans (hcell k hin.1)
      have hk1 := hin.1
      have hk2 := hin.2
      clear hcell hin
      go_wp2_with (first
        | (go_at_call 20; refine (word_calls _ _).mono ?_; rintro e w1 ⟨s, rfl, hs, hb⟩; have B1 := Lib.hid (HB.out.trans (hb.mono HB.out.size)); have R1 := Lib.hid (own_move HR.out (fun j hj => hb.block j (HR.out.lt j hj).2)); clear hb)
        | (at_builtin; refine wpList_append_own _ rfl _ _ 22 rfl w.heap.size 9 i0 _ 1 16 Try.underlying22 hi hz0 hz1 hz2 rfl (by decide) _ _ _ rfl (R1.out.alloc _) ⟨w1.heap.size, 0, none⟩ 1 1 [.string s] rfl rfl (cell_one_new _ _ _) (by intro u hu; simp at hu; subst hu; rfl) (by have := HLEN.out; unfold maxLen; omega) (by have := HLEN.out; omega) (by have := B1.out.size; simp; omega) ?_; intro v2 w2 hown2 hgr2 _; have O2 := Lib.hid hown2; have B2 := Lib.hid ((B1.out.alloc B1.out.size _).grown hgr2 (by have := B1.out.size; simp; omega) (fun j hj => (R1.out.lt j hj).1)); clear hown2 hgr2))
      go_roundw
      case rel => exact ⟨k + 1, ws ++ [s], by omega, by go_num, by simp [HLEN.out], Lib.hid (HT.out.snoc hs), Lib.hid (Row.snoc O2.out), B2⟩
      case measure => simp [intOf]; omega
    · have hout : len0 ≤ k ∨ (k < len0 ∧ 40 ≤ k) := by omega
      obtain ⟨A7, c7, rfl, hc7, hs7⟩ := HR.out.strs
      have HS7 := Lib.hid hs7
      have hwl : ws.length ≤ 40 := by have := HLEN.out; omega
      clear hs7 HR
      obtain ⟨wo, hwo⟩ : ∃ wo : World, wo = wr := ⟨_, rfl⟩
      rw [← hwo] at HS7 HB ⊢
      clear hwo hk HLEN hin
      rcases hout with h1 | ⟨h1, h2⟩
      all_goals
        go_wp2
        clear h1
        try clear h2
        go_loopw [8, 10] (fun v i wr => ∃ (k : Nat) (qs : List ByteArray), k ≤ 5 ∧ i = .int .i64 k ∧ qs.length = k ∧ Hid (Tiny qs) ∧ Hid (Row wr wo.heap.size v qs) ∧ Hid (Below wo.heap.size wo wr)) (fun _ i _ => 5 - (intOf i).toNat)
        case atStart => exact ⟨0, [], by omega, rfl, rfl, Lib.hid (fun s hs => absurd hs (by simp)), Lib.hid (Row.nil _ _), Lib.hid (Below.refl _ _)⟩
        case round =>
          obtain ⟨k, qs, hk, rfl, hlen, HTQ, HRQ, HBQ⟩ := hrel
          have HLEN := Lib.hid hlen
          have HBW := Lib.hid (HB.out.trans (HBQ.out.mono HB.out.size))
          clear hlen
          by_cases hin : k < len1 ∧ k < 5
          · obtain ⟨b, off, rfl, hbz, hcell⟩ := HI1.out k hin.1
            have hcx := (HBW.out.cell (p := ⟨b, off + k, none⟩) (by exact hbz)).trans (hcell k hin.1)
            have hk1 := hin.1
            have hk2 := hin.2
            clear hcell hin
            go_wp2_with (first
              | (go_at_call 21; refine (place_any _ 6 (by decide) (by decide) _).mono ?_; rintro e w1 ⟨t, ht, rfl, hb⟩; obtain ⟨s, hs, hix⟩ := pat_at t (by omega); have B1 := Lib.hid (HBQ.out.trans (hb.mono HBQ.out.size)); have R1 := Lib.hid (own_move HRQ.out (fun j hj => hb.block j (HRQ.out.lt j hj).2)); clear hb)
              | (at_builtin; refine wpList_append_own _ rfl _ _ 22 rfl wo.heap.size 9 i0 _ 1 16 Try.underlying22 hi hz0 hz1 hz2 rfl (by decide) _ _ _ rfl (R1.out.alloc _) ⟨w1.heap.size, 0, none⟩ 1 1 [.string s] rfl rfl (cell_one_new _ _ _) (by intro u hu; simp at hu; subst hu; rfl) (by have := HLEN.out; unfold maxLen; omega) (by have := HLEN.out; omega) (by have := B1.out.size; simp; omega) ?_; intro v2 w2 hown2 hgr2 _; have O2 := Lib.hid hown2; have B2 := Lib.hid ((B1.out.alloc B1.out.size _).grown hgr2 (by have := B1.out.size; simp; omega) (fun j hj => (R1.out.lt j hj).1)); clear hown2 hgr2))
            clear hix
            go_roundw
            case rel => exact ⟨k + 1, qs ++ [s], by omega, by go_num, by simp [HLEN.out], Lib.hid (HTQ.out.snoc hs), Lib.hid (Row.snoc O2.out), B2⟩
            case measure => simp [intOf]; omega
          · have hout : len1 ≤ k ∨ (k < len1 ∧ 5 ≤ k) := by omega
            obtain ⟨A8, c8, rfl, hc8, hs8⟩ := HRQ.out.strs
            have HS8 := Lib.hid hs8
            have HS9 := Lib.hid (HS7.out.below HBQ.out)
            have SQ : Hid (Small qs) := Lib.hid (HTQ.out.small (by have := HLEN.out; omega))
            have SW : Hid (Small ws) := Lib.hid (HT.out.small (by omega))
            have hws1 : ws.length ≤ 1000000 := by omega
            clear hs8 HRQ HBQ
            obtain ⟨wp, hwp⟩ : ∃ wp : World, wp = wr := ⟨_, rfl⟩
            rw [← hwp] at HS8 HS9 HBW ⊢
            clear hwp hk HLEN hin HS7
            have HB0 : Hid (Below wp.heap.size wp wp) := Lib.hid (Below.refl _ _)
            have T1 : Hid True := trivial
            have T2 : Hid True := trivial
            rcases hout with h1 | ⟨h1, h2⟩
            all_goals
              go_wp2_with (first
                | (clear T1; go_at_call 12; refine (lfilter_calls _ A8 A7 c8 c7 qs ws false HS8.out HS9.out SQ.out SW.out).mono ?_; rintro e w3 ⟨A11, c11, rfl, hc11, s3, b3⟩; have B3 := Lib.hid (HB0.out.trans b3); have S3 := Lib.hid s3; clear s3 b3)
                | (clear T2; go_at_call 12; refine (lfilter_calls _ A8 A7 c8 c7 qs ws true (HS8.out.below B3.out) (HS9.out.below B3.out) SQ.out SW.out).mono ?_; rintro e w4 ⟨A12, c12, rfl, hc12, s4, b4⟩; have B4 := Lib.hid (B3.out.trans (b4.mono B3.out.size)); have S4 := Lib.hid s4; have Q3 := Lib.hid (S3.out.below b4); clear s4 b4))
              clear h1
              try clear h2
              have HS7b := Lib.hid (HS9.out.below B4.out)
              obtain ⟨LA, hLA⟩ : ∃ LA, LA = keepB (pats qs) false ws := ⟨_, rfl⟩
              obtain ⟨LB, hLB⟩ : ∃ LB, LB = keepB (pats qs) true ws := ⟨_, rfl⟩
              rw [← hLA] at Q3 hc11 ⊢
              rw [← hLB] at S4 hc12 ⊢
              have hlA : LA.length ≤ 1000 := by rw [hLA]; have := keep_len (pats qs) false ws; omega
              have hlB : LB.length ≤ 1000 := by rw [hLB]; have := keep_len (pats qs) true ws; omega
              have HLA := Lib.hid hLA
              have HLB := Lib.hid hLB
              clear hLA hLB S3 B3 HB0 HS8
              go_loopw [13, 14, 15] (fun v13 v14 v15 wi => ∃ (k q : Nat), k ≤ ws.length ∧ v15 = .int .i64 k ∧ v13 = .int .i64 ((keepB (pats qs) false (ws.take k)).length : Int) ∧ v14 = .int .i64 ((keepB (pats qs) true (ws.take k)).length : Int) ∧ wi = w4.drewN q) (fun _ _ i _ => ws.length - (intOf i).toNat)
              case atStart => exact ⟨0, 0, Nat.zero_le _, rfl, by simp [keepB], by simp [keepB], rfl⟩
              case round =>
                obtain ⟨k, q, hk, rfl, rfl, rfl, rfl⟩ := hrel
                obtain ⟨wz, hwz⟩ : ∃ wz : World, wz = w4.drewN q := ⟨_, rfl⟩
                rw [← hwz]
                have HWZ := Lib.hid hwz
                clear hwz
                obtain ⟨ia, hia⟩ : ∃ ia, ia = (keepB (pats qs) false (ws.take k)).length := ⟨_, rfl⟩
                obtain ⟨ja, hja⟩ : ∃ ja, ja = (keepB (pats qs) true (ws.take k)).length := ⟨_, rfl⟩
                rw [← hia, ← hja]
                have hial : ia ≤ 1000 := by rw [hia]; have := keep_len (pats qs) false (ws.take k); simp at this; omega
                have hjal : ja ≤ 1000 := by rw [hja]; have := keep_len (pats qs) true (ws.take k); simp at this; omega
                have HIA := Lib.hid hia
                have HJA := Lib.hid hja
                clear hia hja
                by_cases hlt : k < ws.length
                · obtain ⟨s, hs⟩ := get_lt hlt
                  obtain ⟨bw, ow, rfl, _, hcw⟩ := HS7b.out.cells (by omega)
                  have m0 := (cell_z HWZ.out _).trans (hcw k s hs)
                  have k0 : (0 : Int) ≤ (k : Int) := Int.natCast_nonneg _
                  have k1 : (k : Int) < (ws.length : Int) := by omega
                  have i0' : (0 : Int) ≤ (ia : Int) := Int.natCast_nonneg _
                  have j0' : (0 : Int) ≤ (ja : Int) := Int.natCast_nonneg _
                  have heq : (s.toList == s.toList) = true := by simp
                  have HSK := Lib.hid hs
                  clear hcw
                  cases hfit : anyP (pats qs) s with
                  | false =>
                    have hB := keep_at (ps := pats qs) (out := true) hs (by rw [hfit]; rfl)
                    rw [← HLB.out, ← HJA.out] at hB
                    have HNA := Lib.hid (keep_len_step (pats qs) false hs false (by rw [hfit]; rfl))
                    have HNB := Lib.hid (keep_len_step (pats qs) true hs true (by rw [hfit]; rfl))
                    obtain ⟨hjb, _⟩ := List.getElem?_eq_some_iff.mp hB
                    obtain ⟨bb, ob, rfl, _, hcb⟩ := S4.out.cells (by omega)
                    have m2 := (cell_z HWZ.out _).trans (hcb ja s hB)
                    have j1 : (ja : Int) < (LB.length : Int) := by omega
                    have hdb1 : decide ((ja : Int) < (LB.length : Int)) = true := decide_eq_true j1
                    have hdb2 : decide (ja < LB.length) = true := decide_eq_true hjb
                    have HNO := Lib.hid (fun i y => keep_no (ps := pats qs) (l := ws) (s := s) (y := y) (i := i) hfit)
                    clear hs hB hcb hfit
                    by_cases hia2 : ia < LA.length
                    · obtain ⟨y, hy⟩ := get_lt hia2
                      have hne := ne_list (HNO.out ia y (by rw [← HLA.out]; exact hy))
                      obtain ⟨ba, oa, rfl, _, hca⟩ := Q3.out.cells (by omega)
                      have m1 := (cell_z HWZ.out _).trans (hca ia y hy)
                      have i1 : (ia : Int) < (LA.length : Int) := by omega
                      have hda1 : decide ((ia : Int) < (LA.length : Int)) = true := decide_eq_true i1
                      have hda2 : decide (ia < LA.length) = true := decide_eq_true hia2
                      clear hy hca
                      go_wp2
                      go_quiet (fail)
                      have HW2 : Hid (wz.drewN nq = w4.drewN (q + nq)) := Lib.hid (by rw [HWZ.out, World.drewN_drewN])
                      have n0 : (wz.drewN nq).cell? _ = _ := m0
                      have n2 : (wz.drewN nq).cell? _ = _ := m2
                      clear m0 m2 m1 hda1 hda2
                      generalize wz.drewN nq = wy at n0 n2 HW2 ⊢
                      go_wp2
                      go_quiet (fail)
                      go_wp2
                      go_roundw
                      case rel => exact ⟨k + 1, _, by omega, by go_num, by rw [HNA.out, HIA.out]; rfl, by rw [HNB.out, HJA.out]; go_num, by rw [HW2.out, World.drewN_drewN]⟩
                      case measure => simp [intOf]; omega
                    · have hda1 : decide ((ia : Int) < (LA.length : Int)) = false := decide_eq_false (by omega)
                      have hda2 : decide (ia < LA.length) = false := decide_eq_false hia2
                      go_wp2
                      go_quiet (fail)
                      have HW2 : Hid (wz.drewN nq = w4.drewN (q + nq)) := Lib.hid (by rw [HWZ.out, World.drewN_drewN])
                      have n0 : (wz.drewN nq).cell? _ = _ := m0
                      have n2 : (wz.drewN nq).cell? _ = _ := m2
                      clear m0 m2 hda1 hda2
                      generalize wz.drewN nq = wy at n0 n2 HW2 ⊢
                      go_wp2
                      go_quiet (fail)
                      go_wp2
                      go_roundw
                      case rel => exact ⟨k + 1, _, by omega, by go_num, by rw [HNA.out, HIA.out]; rfl, by rw [HNB.out, HJA.out]; go_num, by rw [HW2.out, World.drewN_drewN]⟩
                      case measure => simp [intOf]; omega
                  | true =>
                    have hA := keep_at (ps := pats qs) (out := false) hs (by rw [hfit]; rfl)
                    rw [← HLA.out, ← HIA.out] at hA
                    have HNA := Lib.hid (keep_len_step (pats qs) false hs true (by rw [hfit]; rfl))
                    have HNB := Lib.hid (keep_len_step (pats qs) true hs false (by rw [hfit]; rfl))
                    obtain ⟨hia2, _⟩ := List.getElem?_eq_some_iff.mp hA
                    obtain ⟨ba, oa, rfl, _, hca⟩ := Q3.out.cells (by omega)
                    have m1 := (cell_z HWZ.out _).trans (hca ia s hA)
                    have i1 : (ia : Int) < (LA.length : Int) := by omega
                    have hda1 : decide ((ia : Int) < (LA.length : Int)) = true := decide_eq_true i1
                    have hda2 : decide (ia < LA.length) = true := decide_eq_true hia2
                    clear hs hA hca hfit
                    go_wp2
                    go_quiet (fail)
                    go_wp2
                    go_roundw
                    case rel => exact ⟨k + 1, q + nq, by omega, by go_num, by rw [HNA.out, HIA.out]; go_num, by rw [HNB.out, HJA.out]; rfl, by rw [HWZ.out, World.drewN_drewN]⟩
                    case measure => simp [intOf]; omega
                · obtain rfl : k = ws.length := by omega
                  obtain rfl : ia = LA.length := by rw [HIA.out, HLA.out, List.take_length]
                  obtain rfl : ja = LB.length := by rw [HJA.out, HLB.out, List.take_length]
                  have hdz : Below w4.heap.size w4 wz := by rw [HWZ.out]; exact ⟨rfl, rfl, rfl, Nat.le_refl _, fun _ _ => rfl⟩
                  have HZ : Hid (Below w.heap.size w wz) := Lib.hid (HBW.out.trans ((B4.out.trans (hdz.mono B4.out.size)).mono HBW.out.size))
                  have HSW : Hid (Strs wz A7 ws) := Lib.hid (HS7b.out.below hdz)
                  clear hdz HWZ HIA HJA hial hjal hlt hk B4 Q3 S4 HS7b HLA HLB HBW
                  go_wp2_with (go_at_call 10; refine (sort_calls _ A7 c7 ws HSW.out hws1).mono ?_; rintro e w5 ⟨A16, c16, rfl, h16, s16, b16⟩; have Z5 := Lib.hid (HZ.out.trans (b16.mono HZ.out.size)); have S16 := Lib.hid s16; have SW5 := Lib.hid (HSW.out.below b16); clear s16 b16)
                  go_loopw [17] (fun v17 wi => ∃ (n q : Nat), n ≤ 1000 ∧ v17 = .int .i64 ((n + 1 : Nat) : Int) ∧ wi = w5.drewN q) (fun i _ => 1001 - (intOf i).toNat)
                  case atStart => exact ⟨0, 0, by omega, rfl, rfl⟩
                  case round =>
                    obtain ⟨n, q, hn, rfl, rfl⟩ := hrel
                    obtain ⟨wy, hwy⟩ : ∃ wy : World, wy = w5.drewN q := ⟨_, rfl⟩
                    rw [← hwy]
                    have HWY := Lib.hid hwy
                    clear hwy
                    have hsl := sortB_len ws
                    by_cases hlt : n + 1 < (sortB ws).length
                    · obtain ⟨x, hx⟩ := get_lt (l := sortB ws) (i := n) (by omega)
                      obtain ⟨y, hy⟩ := get_lt hlt
                      have hxy : ltB x y := by
                        have := List.pairwise_iff_getElem.mp (sortB_sorts ws).1 n (n + 1) (by omega) hlt (by omega)
                        rw [(List.getElem?_eq_some_iff.mp hx).2, (List.getElem?_eq_some_iff.mp hy).2] at this
                        exact this
                      obtain ⟨bs, os, rfl, _, hcs⟩ := S16.out.cells (by omega)
                      have m1 := (cell_z HWY.out _).trans (hcs n x hx)
                      have m2 := (cell_z HWY.out _).trans (hcs (n + 1) y hy)
                      have hd : Op.bytesLess x.toList y.toList = true := by rw [bytesLess_eq]; exact decide_eq_true hxy
                      have e1 : IntKind.i64.wrap ((n : Int) + 1 - 1) = (n : Int) := by rw [Int.add_sub_cancel]; exact IntWalk.i64_in _ (by omega)
                      have e2 : IntKind.i64.wrap (((n + 1 : Nat) : Int) - 1) = (n : Int) := by rw [show ((n + 1 : Nat) : Int) - 1 = (n : Int) by omega]; exact IntWalk.i64_in _ (by omega)
                      have f1 : (0 : Int) ≤ (n : Int) := by omega
                      have f2 : (n : Int) < ((sortB ws).length : Int) := by omega
                      have f3 : (0 : Int) ≤ (n : Int) + 1 := by omega
                      have f4 : (n : Int) + 1 < ((sortB ws).length : Int) := by omega
                      have f5 : ((n : Int) + 1).toNat = n + 1 := by omega
                      clear hx hy hxy hcs
                      go_wp2
                      go_quiet (fail)
                      go_wp2
                      go_roundw
                      case rel => exact ⟨n + 1, q + nq, by omega, by go_num, by rw [HWY.out, World.drewN_drewN]⟩
                      case measure => simp [intOf]; omega
                    · have hdz : Below w5.heap.size w5 wy := by rw [HWY.out]; exact ⟨rfl, rfl, rfl, Nat.le_refl _, fun _ _ => rfl⟩
                      have ZY := Lib.hid (Z5.out.trans (hdz.mono Z5.out.size))
                      have SWY := Lib.hid (SW5.out.below hdz)
                      have hse := sort_empty ws
                      have HSE := Lib.hid hse
                      have T3 : Hid True := trivial
                      have T4 : Hid True := trivial
                      clear hdz HWY Z5 SW5 S16 hse
                      go_wp2_with (first
                        | (go_at_call 21; refine (place_any a2 ((ws.length : Int) + 2) (by omega) (by omega) _).mono ?_; rintro e w6 ⟨t, ht, rfl, b6⟩; have Z6 := Lib.hid (ZY.out.trans (b6.mono ZY.out.size)); have S6 := Lib.hid (SWY.out.below b6); clear b6)
                        | (clear T3; go_at_call 16; refine (slice_calls _ A7 c7 ws 1 (t : Int) S6.out (by omega) hc7).mono ?_; rintro e w7 ⟨A20, c20, rfl, h20, s20, b7⟩; have Z7 := Lib.hid (Z6.out.trans (b7.mono Z6.out.size)); have S7 := Lib.hid (S6.out.below b7); have S20 := Lib.hid s20; clear b7 s20)
                        | (clear T4; at_builtin; refine append_copyH rfl _ _ rfl rfl A20 c20 (cutB 1 (t : Int) 0 ws) rfl S20.out (by have := cut_len 1 (t : Int) ws; omega) ?_; intro v21 w8 hr8 hb8; have R8 := Lib.hid hr8; have Z8 := Lib.hid (Z7.out.trans (hb8.mono Z7.out.size)); have S8 := Lib.hid (S7.out.below hb8); have hz78 := hb8.size; have H78 := Lib.hid hb8; clear hr8 hb8)
                        | (go_at_call 16; refine (slice_calls _ A7 c7 ws ((t : Int) + 1) (ws.length : Int) S8.out (by omega) hc7).mono ?_; rintro e w9 ⟨A22, c22, rfl, h22, s22, b9⟩; have Z9 := Lib.hid (Z8.out.trans (b9.mono Z8.out.size)); have S9 := Lib.hid (S8.out.below b9); have S22 := Lib.hid s22; have R9 : Hid (Row w9 w7.heap.size v21 (cutB 1 (t : Int) 0 ws)) := Lib.hid (own_move R8.out (fun j hj => b9.block j (R8.out.lt j hj).2)); have hz79 : w7.heap.size ≤ w9.heap.size := Nat.le_trans hz78 b9.size; have H79 := Lib.hid (H78.out.trans (b9.mono hz78)); clear b9 s22)
                        | (at_builtin; refine append_onto rfl _ _ rfl w7.heap.size v21 (cutB 1 (t : Int) 0 ws) rfl R9.out A22 c22 (cutB ((t : Int) + 1) (ws.length : Int) 0 ws) rfl S22.out (by have := cut_len 1 (t : Int) ws; have := cut_len ((t : Int) + 1) (ws.length : Int) ws; omega) hz79 ?_; intro v23 w10 hr10 hb10; rw [halves_cut] at hr10; obtain ⟨A23, c23, rfl, h23, s23⟩ := hr10.strs; have Z10 := Lib.hid (Z9.out.trans (hb10.mono (Z7.out.size))); have S23 := Lib.hid s23; have S10 := Lib.hid (S7.out.below (H79.out.trans hb10)); clear hr10 hb10 s23)
                        | (go_at_call 9; refine (same_calls _ A23 A7 c23 c7 ws S23.out S10.out h23 hc7 hws1).mono ?_; rintro e w11 ⟨rfl, b11⟩; have Z11 := Lib.hid (Z10.out.trans (b11.mono Z10.out.size)); have hse := HSE.out; clear b11)
                        | (go_at_call 8; refine (awake_walk _).mono ?_; rintro e w12 ⟨rfl, b12⟩; have Z12 := Lib.hid (Z11.out.trans (b12.mono Z11.out.size)); clear b12))
                      go_ret
                      exact ⟨rfl, Z12.out⟩

theorem listsHalves_walk (a0 : Option Addr) (len0 cap0 : Nat) (z0 : List Int) (a1 : Option Addr) (len1 cap1 : Nat) (z1 : List Int) (a2 : Int) (w : World)
    (w0 : (a0 = none ∧ len0 = 0 ∧ cap0 = 0 ∧ z0 = []) ∨ ∃ x, a0 = some x ∧ len0 ≤ cap0 ∧ cap0 ≤ maxLen ∧ z0.length = cap0 ∧ (∀ i, i < z0.length → w.cell? (x.add i) = some (.int .i64 (z0.getD i 0))) ∧ ∀ n ∈ z0, (Lit.int .i64 n).wf = true)
    (w1 : (a1 = none ∧ len1 = 0 ∧ cap1 = 0 ∧ z1 = []) ∨ ∃ x, a1 = some x ∧ len1 ≤ cap1 ∧ cap1 ≤ maxLen ∧ z1.length = cap1 ∧ (∀ i, i < z1.length → w.cell? (x.add i) = some (.int .i64 (z1.getD i 0))) ∧ ∀ n ∈ z1, (Lit.int .i64 n).wf = true)
    (_w2 : (Lit.int .i64 a2).wf = true) :
    Calls Try.prog 4 #[.slice a0 len0 cap0, .slice a1 len1 cap1, .int .i64 a2] w fun e w' => e = .returned (.bool true) ∧ Below w.heap.size w w' :=
  halves_any a0 len0 cap0 z0 a1 len1 cap1 z1 a2 w (fun k hk => idx_ints w0 k hk) (fun k hk => idx_ints w1 k hk)
end Go.Proofs.Ytlmabmpdbcgabaa.G
