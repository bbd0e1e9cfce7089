-- Written by a program of this session (wip/tools) out of the translation, over the kit's print. Not trusted: Lean checks it.
import Derived.Test.YtabdjijlmiobhaaPx0
import Derived.Test.YtabdjijlmiobhaaPx1
import Derived.Test.YtabdjijlmiobhaaPx6
import Derived.Test.YtabdjijlmiobhaaPatOf
namespace Go.Proofs.Ytabdjijlmiobhaa.G
end Go.Proofs.Ytabdjijlmiobhaa.G
namespace Go.Proofs.Ytabdjijlmiobhaa.P0
end Go.Proofs.Ytabdjijlmiobhaa.P0
namespace Go.Proofs.Ytabdjijlmiobhaa.P
open Go.Proofs.Ytabdjijlmiobhaa.G Go.Proofs.Ytabdjijlmiobhaa.P0
open Go.RowKit Go.Proofs.YtabdjijlmiobhaaW.PrintWords Go.Proofs.YtabdjijlmiobhaaW.PrintLast Go.Proofs.YtabdjijlmiobhaaW.PrintMore
attribute [local go_sem] max2_int min2_int max_two min_two max_three min_three max_four min_four   -- for this text's walks alone
set_option linter.unusedVariables false
set_option linter.unusedSimpArgs false

/-! ### wainwrightlaw02_PatternBacks: function 9 -/
mutual
def wainwrightlaw02_PatternBacks.l0 : Nat → Int → Int → ByteArray → Int → Option (Bool)
  | 0, _, _, _, _ => none
  | k + 1, x5, x6, x7, x8 => if x8 < x5 then (if x7.size + 1 ≤ 9223372036854775807 then (wainwrightlaw02_PatternBacks.l0 k x5 x6 (x7 ++ (⟨#[92]⟩ : ByteArray)) (wrap64 (x8 + 1))) else (none)) else (if x7.size + 2 ≤ 9223372036854775807 then (wainwrightlaw02_PatternBacks.l1 k x5 x6 (x7 ++ (⟨#[37, 98]⟩ : ByteArray)) 0) else (none))
def wainwrightlaw02_PatternBacks.l1 : Nat → Int → Int → ByteArray → Int → Option (Bool)
  | 0, _, _, _, _ => none
  | k + 1, x5, x6, x7, x9 => if x9 < x6 then (if x7.size + 1 ≤ 9223372036854775807 then (wainwrightlaw02_PatternBacks.l1 k x5 x6 (x7 ++ (⟨#[92]⟩ : ByteArray)) (wrap64 (x9 + 1))) else (none)) else (if x7.size + 2 ≤ 9223372036854775807 then ((pattern_Of.f (x7 ++ (⟨#[37, 99]⟩ : ByteArray))).bind fun bt160 => ((pattern_Of.f x7).bind fun bt164 => (if (Int.tmod x5 2) = 0 then (if bt160.1 = true then (if (bt160.2.1.size : Int) = (wrap64 (1 + (wrap64 (Int.tdiv x5 2)))) then (if (bt160.2.2.size : Int) = (wrap64 ((wrap64 (1 + x6)) + 2)) then (if bt164.1 = true then (if (bt164.2.2.size : Int) = (wrap64 (1 + x6)) then ((wainwrightlaw02_awake.f).bind fun t168 => (some t168)) else (some false)) else (some false)) else (some false)) else (some false)) else (some false)) else (if (bt160.1 == ((Int.tmod x6 2) == 0)) = true then (if (wrap64 ((bt160.2.1.size : Int) + (bt160.2.2.size : Int))) = (wrap64 ((wrap64 ((wrap64 ((wrap64 ((wrap64 (1 + (wrap64 (Int.tdiv x5 2)))) + 2)) + (wrap64 (Int.tdiv x6 2)))) + 1)) + (Int.tmod x6 2))) then (if bt164.1 = true then (some false) else (if (bt164.2.1.size : Int) = (wrap64 ((wrap64 ((wrap64 (1 + (wrap64 (Int.tdiv x5 2)))) + 2)) + x6)) then ((wainwrightlaw02_awake.f).bind fun t169 => (some t169)) else (some false))) else (some false)) else (some false))))) else (none))
end
def wainwrightlaw02_PatternBacks.f (k : Nat) (a0 : Int) (a1 : Int) : Option (Bool) := (wainwrightlaw00_Place.f a0 20).bind fun t158 => ((wainwrightlaw00_Place.f a1 20).bind fun t159 => (wainwrightlaw02_PatternBacks.l0 k t158 t159 (⟨#[97]⟩ : ByteArray) 0))
theorem wainwrightlaw02_PatternBacks.mono_l : ∀ k, (∀ y0 y1 y2 y3, LeO (wainwrightlaw02_PatternBacks.l0 k y0 y1 y2 y3) (wainwrightlaw02_PatternBacks.l0 (k + 1) y0 y1 y2 y3)) ∧ (∀ y0 y1 y2 y3, LeO (wainwrightlaw02_PatternBacks.l1 k y0 y1 y2 y3) (wainwrightlaw02_PatternBacks.l1 (k + 1) y0 y1 y2 y3))
  | 0 => ⟨fun _ _ _ _ r h => by simp [wainwrightlaw02_PatternBacks.l0] at h, fun _ _ _ _ r h => by simp [wainwrightlaw02_PatternBacks.l1] at h⟩
  | k + 1 => by
    obtain ⟨ih0, ih1⟩ := wainwrightlaw02_PatternBacks.mono_l k
    refine ⟨?_, ?_⟩
    · intro y0 y1 y2 y3
      unfold wainwrightlaw02_PatternBacks.l0
      repeat' first
      | (with_reducible exact ih0 _ _ _ _)
      | (with_reducible exact ih1 _ _ _ _)
      | (with_reducible exact LeO.refl _)
      | (with_reducible exact LeO.none _)
      | (with_reducible refine LeO.ite ?_ ?_)
      | (with_reducible refine LeO.bind ?_ (fun _ => ?_))
      | exact ih0 _ _ _ _
      | exact ih1 _ _ _ _
      | exact LeO.none _
      | refine LeO.ite ?_ ?_
      | refine LeO.bind ?_ (fun _ => ?_)
    · intro y0 y1 y2 y3
      unfold wainwrightlaw02_PatternBacks.l1
      repeat' first
      | (with_reducible exact ih0 _ _ _ _)
      | (with_reducible exact ih1 _ _ _ _)
      | (with_reducible exact LeO.refl _)
      | (with_reducible exact LeO.none _)
      | (with_reducible refine LeO.ite ?_ ?_)
      | (with_reducible refine LeO.bind ?_ (fun _ => ?_))
      | exact ih0 _ _ _ _
      | exact ih1 _ _ _ _
      | exact LeO.none _
      | refine LeO.ite ?_ ?_
      | refine LeO.bind ?_ (fun _ => ?_)
theorem wainwrightlaw02_PatternBacks.mono : ∀ a0 a1 k, LeO (wainwrightlaw02_PatternBacks.f k a0 a1) (wainwrightlaw02_PatternBacks.f (k + 1) a0 a1) := by
  intro a0 a1 k
  obtain ⟨ih0, ih1⟩ := wainwrightlaw02_PatternBacks.mono_l k
  unfold wainwrightlaw02_PatternBacks.f
  repeat' first
      | (with_reducible exact ih0 _ _ _ _)
      | (with_reducible exact ih1 _ _ _ _)
      | (with_reducible exact LeO.refl _)
      | (with_reducible exact LeO.none _)
      | (with_reducible refine LeO.ite ?_ ?_)
      | (with_reducible refine LeO.bind ?_ (fun _ => ?_))
      | exact ih0 _ _ _ _
      | exact ih1 _ _ _ _
      | exact LeO.none _
      | refine LeO.ite ?_ ?_
      | refine LeO.bind ?_ (fun _ => ?_)
set_option maxHeartbeats 8000000 in
set_option maxRecDepth 100000 in
theorem wainwrightlaw02_PatternBacks.calls (k : Nat) (a0 : Int) (a1 : Int) (r : Bool) (hr_ : Hid (r = true)) (w : World) (h : wainwrightlaw02_PatternBacks.f k a0 a1 = some r) :
    Calls Try.prog 9 #[.int .i64 a0, .int .i64 a1] w fun e w' => e = .returned (.bool r) ∧ Below w.heap.size w w' := by
  have hu43 := Try.underlying43
  have HB := Aside0.mk (Below.refl w.heap.size w)
  have H : ((wainwrightlaw00_Place.f a0 20).bind fun t158 => ((wainwrightlaw00_Place.f a1 20).bind fun t159 => (wainwrightlaw02_PatternBacks.l0 k t158 t159 (⟨#[97]⟩ : ByteArray) 0))) = some r := h
  clear h
  replace H := Option.bind_eq_some_iff.mp H
  obtain ⟨t158, A30, H⟩ := H
  replace H : ((wainwrightlaw00_Place.f a1 20).bind fun t159 => (wainwrightlaw02_PatternBacks.l0 k t158 t159 (⟨#[97]⟩ : ByteArray) 0)) = some r := H
  have A3 := Aside0.mk A30
  clear A30
  replace H := Option.bind_eq_some_iff.mp H
  obtain ⟨t159, A40, H⟩ := H
  replace H : (wainwrightlaw02_PatternBacks.l0 k t158 t159 (⟨#[97]⟩ : ByteArray) 0) = some r := H
  have A4 := Aside0.mk A40
  clear A40
  have H' := Aside0.mk H
  clear H
  go_enter Try.func9, Try.ntmps9
  go_wp2_with (first | ((with_reducible refine gate_callee (f := 16) rfl ?_); refine goesL_ (some 13) rfl rfl Try.func16 (by kernel_rfl) rfl #[.int .i64 a0, .int .i64 20] rfl (by (try simp only [List.map_toArray, List.map_cons, List.map_nil]); first | done | rfl | (simp only [List.length_drop, List.length_take]; rfl)) ?_; (with_reducible refine (wainwrightlaw00_Place.calls a0 20 t158 _ A3.out).mono ?_); rintro e w' ⟨rfl, ⟨nd, rfl⟩⟩; refine ⟨_, rfl, ?_⟩) | ((with_reducible refine gate_callee (f := 16) rfl ?_); refine goesL_ (some 15) rfl rfl Try.func16 (by kernel_rfl) rfl #[.int .i64 a1, .int .i64 20] rfl (by (try simp only [List.map_toArray, List.map_cons, List.map_nil]); first | done | rfl | (simp only [List.length_drop, List.length_take]; rfl)) ?_; (with_reducible refine (wainwrightlaw00_Place.calls a1 20 t159 _ A4.out).mono ?_); rintro e w' ⟨rfl, ⟨nd, rfl⟩⟩; refine ⟨_, rfl, ?_⟩))
  go_loopg [7, 8] k (fun kq v7 v8 w' => ∃ (x7_1 : ByteArray) (x8_1 : Int), v7 = .string x7_1 ∧ v8 = .int .i64 x8_1 ∧ Aside0 (wainwrightlaw02_PatternBacks.l0 kq t158 t159 x7_1 x8_1 = some r) ∧ Aside0 (kq ≤ k) ∧ Aside0 (Below w.heap.size w w'))
  case atStart => exact ⟨((⟨#[97]⟩ : ByteArray)), (0), (by first | rfl | (simp; done) | (simp [wrap64]; done) | (simp [*]; done)), (by first | rfl | (simp; done) | (simp [wrap64]; done) | (simp [*]; done)), H', ⟨Nat.le_refl _⟩, ⟨by repeat (first | (with_reducible first | exact HB.out | apply below_alloc | apply pw_below_drewN | apply below_drew1) | exact HB.out)⟩⟩
  case round =>
    clear H'
    try clear c1
    try clear p2
    obtain ⟨x7_1, x8_1, rfl, rfl, HA, HK1, HB⟩ := hrel
    cases gk with
    | zero => exact absurd HA.out (by simp [wainwrightlaw02_PatternBacks.l0])
    | succ k1 =>
      have H := HA.out
      clear HA
      simp only [wainwrightlaw02_PatternBacks.l0] at H
      by_cases c5 : x8_1 < t158
      · rw [if_pos c5] at H
        have c5b0 : decide (x8_1 < t158) = true := decide_eq_true c5
        clear c5
        by_cases c6 : x7_1.size + 1 ≤ 9223372036854775807
        · rw [if_pos c6] at H
          have c6b0 := eq_true c6
          have c6b1 : decide (x7_1.size + 1 ≤ 9223372036854775807) = true := decide_eq_true c6
          try have c6b2 : (9223372036854775807 < x7_1.size + 1) = False := eq_false (Nat.not_lt.2 c6)
          have H' := Aside0.mk H
          clear H
          go_wp2
          go_roundg k1
          case measure => have := HK1.out; omega
          case rel => exact ⟨(x7_1 ++ (⟨#[92]⟩ : ByteArray)), (wrap64 (x8_1 + 1)), (by first | rfl | (simp; done) | (simp [wrap64]; done) | (simp [*]; done)), (by first | rfl | (simp; done) | (simp [wrap64]; done) | (simp [*]; done)), H', ⟨by have := HK1.out; omega⟩, ⟨by repeat (first | (with_reducible first | exact HB.out | apply below_alloc | apply pw_below_drewN | apply below_drew1) | exact HB.out)⟩⟩
        · rw [if_neg c6] at H
          exact absurd H (by simp)
      · rw [if_neg c5] at H
        have c5b0 : decide (x8_1 < t158) = false := decide_eq_false c5
        clear c5
        by_cases c7 : x7_1.size + 2 ≤ 9223372036854775807
        · rw [if_pos c7] at H
          have c7b0 := eq_true c7
          have c7b1 : decide (x7_1.size + 2 ≤ 9223372036854775807) = true := decide_eq_true c7
          try have c7b2 : (9223372036854775807 < x7_1.size + 2) = False := eq_false (Nat.not_lt.2 c7)
          have H' := Aside0.mk H
          clear H
          go_wp2
          go_loopg [7, 9] k1 (fun kq v7 v9 w' => ∃ (x7_2 : ByteArray) (x9_2 : Int), v7 = .string x7_2 ∧ v9 = .int .i64 x9_2 ∧ Aside0 (wainwrightlaw02_PatternBacks.l1 kq t158 t159 x7_2 x9_2 = some r) ∧ Aside0 (kq ≤ k1) ∧ Aside0 (Below w.heap.size w w'))
          case atStart => exact ⟨(x7_1 ++ (⟨#[37, 98]⟩ : ByteArray)), (0), (by first | rfl | (simp; done) | (simp [wrap64]; done) | (simp [*]; done)), (by first | rfl | (simp; done) | (simp [wrap64]; done) | (simp [*]; done)), H', ⟨Nat.le_refl _⟩, ⟨by repeat (first | (with_reducible first | exact HB.out | apply below_alloc | apply pw_below_drewN | apply below_drew1) | exact HB.out)⟩⟩
          case round =>
            clear H'
            try clear c1
            try clear p2
            try clear c5
            try clear c5b0
            try clear c6
            try clear c6b0
            try clear c6b1
            try clear c6b2
            try clear p6
            try clear c7
            try clear c7b0
            try clear c7b1
            try clear c7b2
            try clear p2
            obtain ⟨x7_2, x9_2, rfl, rfl, HA, HK2, HB⟩ := hrel
            cases gk with
            | zero => exact absurd HA.out (by simp [wainwrightlaw02_PatternBacks.l1])
            | succ k2 =>
              have H := HA.out
              clear HA
              simp only [wainwrightlaw02_PatternBacks.l1] at H
              by_cases c8 : x9_2 < t159
              · rw [if_pos c8] at H
                have c8b0 : decide (x9_2 < t159) = true := decide_eq_true c8
                clear c8
                by_cases c9 : x7_2.size + 1 ≤ 9223372036854775807
                · rw [if_pos c9] at H
                  have c9b0 := eq_true c9
                  have c9b1 : decide (x7_2.size + 1 ≤ 9223372036854775807) = true := decide_eq_true c9
                  try have c9b2 : (9223372036854775807 < x7_2.size + 1) = False := eq_false (Nat.not_lt.2 c9)
                  have H' := Aside0.mk H
                  clear H
                  go_wp2
                  go_roundg k2
                  case measure => have := HK1.out; have := HK2.out; omega
                  case rel => exact ⟨(x7_2 ++ (⟨#[92]⟩ : ByteArray)), (wrap64 (x9_2 + 1)), (by first | rfl | (simp; done) | (simp [wrap64]; done) | (simp [*]; done)), (by first | rfl | (simp; done) | (simp [wrap64]; done) | (simp [*]; done)), H', ⟨by have := HK1.out; have := HK2.out; omega⟩, ⟨by repeat (first | (with_reducible first | exact HB.out | apply below_alloc | apply pw_below_drewN | apply below_drew1) | exact HB.out)⟩⟩
                · rw [if_neg c9] at H
                  exact absurd H (by simp)
              · rw [if_neg c8] at H
                have c8b0 : decide (x9_2 < t159) = false := decide_eq_false c8
                clear c8
                by_cases c10 : x7_2.size + 2 ≤ 9223372036854775807
                · rw [if_pos c10] at H
                  have c10b0 := eq_true c10
                  have c10b1 : decide (x7_2.size + 2 ≤ 9223372036854775807) = true := decide_eq_true c10
                  try have c10b2 : (9223372036854775807 < x7_2.size + 2) = False := eq_false (Nat.not_lt.2 c10)
                  replace H := Option.bind_eq_some_iff.mp H
                  obtain ⟨⟨t160, t161, t162⟩, A110, H⟩ := H
                  replace H : ((pattern_Of.f x7_2).bind fun bt164 => (if (Int.tmod t158 2) = 0 then (if t160 = true then (if (t161.size : Int) = (wrap64 (1 + (wrap64 (Int.tdiv t158 2)))) then (if (t162.size : Int) = (wrap64 ((wrap64 (1 + t159)) + 2)) then (if bt164.1 = true then (if (bt164.2.2.size : Int) = (wrap64 (1 + t159)) then ((wainwrightlaw02_awake.f).bind fun t168 => (some t168)) else (some false)) else (some false)) else (some false)) else (some false)) else (some false)) else (if (t160 == ((Int.tmod t159 2) == 0)) = true then (if (wrap64 ((t161.size : Int) + (t162.size : Int))) = (wrap64 ((wrap64 ((wrap64 ((wrap64 ((wrap64 (1 + (wrap64 (Int.tdiv t158 2)))) + 2)) + (wrap64 (Int.tdiv t159 2)))) + 1)) + (Int.tmod t159 2))) then (if bt164.1 = true then (some false) else (if (bt164.2.1.size : Int) = (wrap64 ((wrap64 ((wrap64 (1 + (wrap64 (Int.tdiv t158 2)))) + 2)) + t159)) then ((wainwrightlaw02_awake.f).bind fun t169 => (some t169)) else (some false))) else (some false)) else (some false)))) = some r := H
                  have A11 := Aside0.mk A110
                  clear A110
                  replace H := Option.bind_eq_some_iff.mp H
                  obtain ⟨⟨t164, t165, t166⟩, A120, H⟩ := H
                  replace H : (if (Int.tmod t158 2) = 0 then (if t160 = true then (if (t161.size : Int) = (wrap64 (1 + (wrap64 (Int.tdiv t158 2)))) then (if (t162.size : Int) = (wrap64 ((wrap64 (1 + t159)) + 2)) then (if t164 = true then (if (t166.size : Int) = (wrap64 (1 + t159)) then ((wainwrightlaw02_awake.f).bind fun t168 => (some t168)) else (some false)) else (some false)) else (some false)) else (some false)) else (some false)) else (if (t160 == ((Int.tmod t159 2) == 0)) = true then (if (wrap64 ((t161.size : Int) + (t162.size : Int))) = (wrap64 ((wrap64 ((wrap64 ((wrap64 ((wrap64 (1 + (wrap64 (Int.tdiv t158 2)))) + 2)) + (wrap64 (Int.tdiv t159 2)))) + 1)) + (Int.tmod t159 2))) then (if t164 = true then (some false) else (if (t165.size : Int) = (wrap64 ((wrap64 ((wrap64 (1 + (wrap64 (Int.tdiv t158 2)))) + 2)) + t159)) then ((wainwrightlaw02_awake.f).bind fun t169 => (some t169)) else (some false))) else (some false)) else (some false))) = some r := H
                  have A12 := Aside0.mk A120
                  clear A120
                  by_cases c13 : (Int.tmod t158 2) = 0
                  · rw [if_pos c13] at H
                    have c13b0 : ((Int.tmod t158 2) == 0) = true := beq_iff_eq.mpr c13
                    have c13b1 : ((Int.tmod t158 2) != 0) = false := bne_eq_false_iff_eq.mpr c13
                    clear c13
                    by_cases c14 : t160 = true
                    · subst c14
                      have H1 : (if (t161.size : Int) = (wrap64 (1 + (wrap64 (Int.tdiv t158 2)))) then (if (t162.size : Int) = (wrap64 ((wrap64 (1 + t159)) + 2)) then (if t164 = true then (if (t166.size : Int) = (wrap64 (1 + t159)) then ((wainwrightlaw02_awake.f).bind fun t168 => (some t168)) else (some false)) else (some false)) else (some false)) else (some false)) = some r := by rw [if_pos rfl] at H; exact H
                      clear H
                      have H := H1
                      clear H1
                      by_cases c15 : (t161.size : Int) = (wrap64 (1 + (wrap64 (Int.tdiv t158 2))))
                      · rw [if_pos c15] at H
                        have c15b0 : ((t161.size : Int) == (wrap64 (1 + (wrap64 (Int.tdiv t158 2))))) = true := beq_iff_eq.mpr c15
                        have c15b1 : ((t161.size : Int) != (wrap64 (1 + (wrap64 (Int.tdiv t158 2))))) = false := bne_eq_false_iff_eq.mpr c15
                        clear c15
                        by_cases c16 : (t162.size : Int) = (wrap64 ((wrap64 (1 + t159)) + 2))
                        · rw [if_pos c16] at H
                          have c16b0 : ((t162.size : Int) == (wrap64 ((wrap64 (1 + t159)) + 2))) = true := beq_iff_eq.mpr c16
                          have c16b1 : ((t162.size : Int) != (wrap64 ((wrap64 (1 + t159)) + 2))) = false := bne_eq_false_iff_eq.mpr c16
                          clear c16
                          by_cases c17 : t164 = true
                          · subst c17
                            have H1 : (if (t166.size : Int) = (wrap64 (1 + t159)) then ((wainwrightlaw02_awake.f).bind fun t168 => (some t168)) else (some false)) = some r := by rw [if_pos rfl] at H; exact H
                            clear H
                            have H := H1
                            clear H1
                            by_cases c18 : (t166.size : Int) = (wrap64 (1 + t159))
                            · rw [if_pos c18] at H
                              have c18b0 : ((t166.size : Int) == (wrap64 (1 + t159))) = true := beq_iff_eq.mpr c18
                              have c18b1 : ((t166.size : Int) != (wrap64 (1 + t159))) = false := bne_eq_false_iff_eq.mpr c18
                              clear c18
                              replace H := Option.bind_eq_some_iff.mp H
                              obtain ⟨t168, A190, H⟩ := H
                              replace H : (some t168) = some r := H
                              have A19 := Aside0.mk A190
                              clear A190
                              obtain rfl := Option.some.inj H
                              go_wp2_with (first | ((with_reducible refine gate_callee (f := 23) rfl ?_); refine goesL_ (some 34) rfl rfl Try.func23 (by kernel_rfl) rfl #[.string (x7_2 ++ (⟨#[37, 99]⟩ : ByteArray))] rfl (by (try simp only [List.map_toArray, List.map_cons, List.map_nil]); first | done | rfl | (simp only [List.length_drop, List.length_take]; rfl)) ?_; (with_reducible refine (pattern_Of.calls (x7_2 ++ (⟨#[37, 99]⟩ : ByteArray)) true t161 t162 _ A11.out).mono ?_); rintro e w20 ⟨rfl, hb⟩; refine ⟨_, rfl, ?_⟩; have n0_ := Aside0.mk (below_step (by repeat (first | (with_reducible first | exact HB.out | apply below_alloc | apply pw_below_drewN | apply below_drew1) | exact HB.out)) hb); clear HB; have HB := n0_; clear n0_; (try clear hb); (try clear hb2); (try clear hk); (try clear hi)) | ((with_reducible refine gate_dst (N := 10) rfl ?_); (try (refine gate_guard (by rfl) ?_; dsimp only)); refine box_event ?hg (N := 10) ?hd (cs := #[.bool false, .string (⟨#[]⟩ : ByteArray), .string (⟨#[]⟩ : ByteArray)]) (t := 43) ?hr ?_; (case hd => rfl); (case hg => rfl); (case hr => first | (go_simp; done) | (go_simp; rfl)); intro gb163 hg w21 hbox hb; have n0_ := Aside0.mk (below_step (by repeat (first | (with_reducible first | exact HB.out | apply below_alloc | apply pw_below_drewN | apply below_drew1) | exact HB.out)) hb); have n1_ := Aside0.mk (hbox); have n2_ := Aside0.mk ((by rw [hg]; exact (below_size (by repeat (first | (with_reducible first | exact HB.out | apply below_alloc | apply pw_below_drewN | apply below_drew1) | exact HB.out))) : w.heap.size ≤ gb163)); have n3_ := Aside0.mk ((by rw [hg]; exact (below_size (by repeat (first | (with_reducible first | exact HB.out | apply below_alloc | apply pw_below_drewN | apply below_drew1) | exact HB.out))) : w.heap.size ≤ gb163)); clear HB; have HB := n0_; have BK163 := n1_; have GW163 := n2_; have GE163 := n3_; clear n0_ n1_ n2_ n3_; clear hb hbox hg; have hcz22_0 : w21.cell? ⟨gb163, 0, none⟩ = some (.bool false) := (blk_cell BK163.out 0).trans rfl; have hcz22_1 : w21.cell? ⟨gb163, 1, none⟩ = some (.string (⟨#[]⟩ : ByteArray)) := (blk_cell BK163.out 1).trans rfl; have hcz22_2 : w21.cell? ⟨gb163, 2, none⟩ = some (.string (⟨#[]⟩ : ByteArray)) := (blk_cell BK163.out 2).trans rfl; have hfz22_0 := blk_frozen BK163.out 0; have hfz22_1 := blk_frozen BK163.out 1; have hfz22_2 := blk_frozen BK163.out 2) | ((with_reducible refine gate_callee (f := 23) rfl ?_); refine goesL_ (some 36) rfl rfl Try.func23 (by kernel_rfl) rfl #[.string x7_2] rfl (by (try simp only [List.map_toArray, List.map_cons, List.map_nil]); first | done | rfl | (simp only [List.length_drop, List.length_take]; rfl)) ?_; (with_reducible refine (pattern_Of.calls x7_2 true t165 t166 _ A12.out).mono ?_); rintro e w23 ⟨rfl, hb⟩; refine ⟨_, rfl, ?_⟩; have n0_ := Aside0.mk (blk_below (g := gb163) (o := .cells #[.bool true, .string t161, .string t162] 43 (0, 0)) (by (with_reducible repeat (first | refine blk_drewN ?_ _ | refine blk_drew ?_ | refine blk_alloc ?_ _)); refine blk_put (cs := #[.bool true, .string t161, .string (⟨#[]⟩ : ByteArray)]) ?_ 2 _ rfl; (with_reducible repeat (first | refine blk_drewN ?_ _ | refine blk_drew ?_ | refine blk_alloc ?_ _)); refine blk_put (cs := #[.bool true, .string (⟨#[]⟩ : ByteArray), .string (⟨#[]⟩ : ByteArray)]) ?_ 1 _ rfl; (with_reducible repeat (first | refine blk_drewN ?_ _ | refine blk_drew ?_ | refine blk_alloc ?_ _)); refine blk_put (cs := #[.bool false, .string (⟨#[]⟩ : ByteArray), .string (⟨#[]⟩ : ByteArray)]) ?_ 0 _ rfl; (with_reducible repeat (first | refine blk_drewN ?_ _ | refine blk_drew ?_ | refine blk_alloc ?_ _)); exact BK163.out) hb); have n1_ := Aside0.mk (below_step (by repeat (first | (with_reducible first | exact HB.out | apply below_alloc | apply pw_below_drewN | apply below_drew1 | refine below_set ?_ GE163.out) | exact HB.out)) hb); clear BK163; clear HB; have BK163 := n0_; have HB := n1_; clear n0_ n1_; (try clear hb); (try clear hb2); (try clear hk); (try clear hi)) | ((with_reducible refine gate_dst (N := 11) rfl ?_); (try (refine gate_guard (by rfl) ?_; dsimp only)); refine box_event ?hg (N := 11) ?hd (cs := #[.bool false, .string (⟨#[]⟩ : ByteArray), .string (⟨#[]⟩ : ByteArray)]) (t := 43) ?hr ?_; (case hd => rfl); (case hg => rfl); (case hr => first | (go_simp; done) | (go_simp; rfl)); intro gb167 hg w24 hbox hb; have n0_ := Aside0.mk (blk_below (g := gb163) (o := .cells #[.bool true, .string t161, .string t162] 43 (0, 0)) (by (with_reducible repeat (first | refine blk_drewN ?_ _ | refine blk_drew ?_ | refine blk_alloc ?_ _)); exact BK163.out) hb); have n1_ := Aside0.mk (below_step (by repeat (first | (with_reducible first | exact HB.out | apply below_alloc | apply pw_below_drewN | apply below_drew1 | refine below_set ?_ GE163.out) | exact HB.out)) hb); have n2_ := Aside0.mk (hbox); have n3_ := Aside0.mk ((by rw [hg]; exact (below_size (by repeat (first | (with_reducible first | exact HB.out | apply below_alloc | apply pw_below_drewN | apply below_drew1 | refine below_set ?_ GE163.out) | exact HB.out))) : w.heap.size ≤ gb167)); have n4_ := Aside0.mk ((by rw [hg]; exact (below_size (by repeat (first | (with_reducible first | exact HB.out | apply below_alloc | apply pw_below_drewN | apply below_drew1 | refine below_set ?_ GE163.out) | exact HB.out))) : w.heap.size ≤ gb167)); have n5_ := Aside0.mk ((by rw [hg]; exact Nat.ne_of_lt (blk_lt (g := gb163) (o := .cells #[.bool true, .string t161, .string t162] 43 (0, 0)) (by (with_reducible repeat (first | refine blk_drewN ?_ _ | refine blk_drew ?_ | refine blk_alloc ?_ _)); exact BK163.out)) : gb163 ≠ gb167)); have n6_ := Aside0.mk ((by rw [hg]; exact Nat.ne_of_gt (blk_lt (g := gb163) (o := .cells #[.bool true, .string t161, .string t162] 43 (0, 0)) (by (with_reducible repeat (first | refine blk_drewN ?_ _ | refine blk_drew ?_ | refine blk_alloc ?_ _)); exact BK163.out)) : gb167 ≠ gb163)); clear BK163; clear HB; have BK163 := n0_; have HB := n1_; have BK167 := n2_; have GW167 := n3_; have GE167 := n4_; have NB163_167 := n5_; have NB167_163 := n6_; clear n0_ n1_ n2_ n3_ n4_ n5_ n6_; clear hb hbox hg; have hnb25 := NB167_163.out; have hnc25 := NB163_167.out; have hcz26_0 : w24.cell? ⟨gb167, 0, none⟩ = some (.bool false) := (blk_cell BK167.out 0).trans rfl; have hcz26_1 : w24.cell? ⟨gb167, 1, none⟩ = some (.string (⟨#[]⟩ : ByteArray)) := (blk_cell BK167.out 1).trans rfl; have hcz26_2 : w24.cell? ⟨gb167, 2, none⟩ = some (.string (⟨#[]⟩ : ByteArray)) := (blk_cell BK167.out 2).trans rfl; have hfz26_0 := blk_frozen BK167.out 0; have hfz26_1 := blk_frozen BK167.out 1; have hfz26_2 := blk_frozen BK167.out 2; have hcz27_0 : w24.cell? ⟨gb163, 0, none⟩ = some (.bool true) := (blk_cell BK163.out 0).trans rfl; have hcz27_1 : w24.cell? ⟨gb163, 1, none⟩ = some (.string t161) := (blk_cell BK163.out 1).trans rfl; have hcz27_2 : w24.cell? ⟨gb163, 2, none⟩ = some (.string t162) := (blk_cell BK163.out 2).trans rfl; have hfz27_0 := blk_frozen BK163.out 0; have hfz27_1 := blk_frozen BK163.out 1; have hfz27_2 := blk_frozen BK163.out 2) | (go_at_call 22; (with_reducible refine (wainwrightlaw02_awake.calls  t168 _ A19.out).mono ?_); rintro e w28 ⟨rfl, hb⟩; have n0_ := Aside0.mk (blk_below (g := gb163) (o := .cells #[.bool true, .string t161, .string t162] 43 (0, 0)) (by (with_reducible repeat (first | refine blk_drewN ?_ _ | refine blk_drew ?_ | refine blk_alloc ?_ _)); refine blk_far ?_ NB163_167.out _; (with_reducible repeat (first | refine blk_drewN ?_ _ | refine blk_drew ?_ | refine blk_alloc ?_ _)); refine blk_far ?_ NB163_167.out _; (with_reducible repeat (first | refine blk_drewN ?_ _ | refine blk_drew ?_ | refine blk_alloc ?_ _)); refine blk_far ?_ NB163_167.out _; (with_reducible repeat (first | refine blk_drewN ?_ _ | refine blk_drew ?_ | refine blk_alloc ?_ _)); exact BK163.out) hb); have n1_ := Aside0.mk (blk_below (g := gb167) (o := .cells #[.bool true, .string t165, .string t166] 43 (0, 0)) (by (with_reducible repeat (first | refine blk_drewN ?_ _ | refine blk_drew ?_ | refine blk_alloc ?_ _)); refine blk_put (cs := #[.bool true, .string t165, .string (⟨#[]⟩ : ByteArray)]) ?_ 2 _ rfl; (with_reducible repeat (first | refine blk_drewN ?_ _ | refine blk_drew ?_ | refine blk_alloc ?_ _)); refine blk_put (cs := #[.bool true, .string (⟨#[]⟩ : ByteArray), .string (⟨#[]⟩ : ByteArray)]) ?_ 1 _ rfl; (with_reducible repeat (first | refine blk_drewN ?_ _ | refine blk_drew ?_ | refine blk_alloc ?_ _)); refine blk_put (cs := #[.bool false, .string (⟨#[]⟩ : ByteArray), .string (⟨#[]⟩ : ByteArray)]) ?_ 0 _ rfl; (with_reducible repeat (first | refine blk_drewN ?_ _ | refine blk_drew ?_ | refine blk_alloc ?_ _)); exact BK167.out) hb); have n2_ := Aside0.mk (below_step (by repeat (first | (with_reducible first | exact HB.out | apply below_alloc | apply pw_below_drewN | apply below_drew1 | refine below_set ?_ GE163.out | refine below_set ?_ GE167.out) | exact HB.out)) hb); clear BK163; clear BK167; clear HB; have BK163 := n0_; have BK167 := n1_; have HB := n2_; clear n0_ n1_ n2_; (try clear hb); (try clear hb2); (try clear hk); (try clear hi)))
                              go_ret
                              exact ⟨by first | rfl | (simp [errW_none, errW_some] <;> rfl) | (simp [*, errW_none, errW_some] <;> rfl), by repeat (first | (with_reducible first | exact HB.out | apply below_alloc | apply pw_below_drewN | apply below_drew1 | refine below_set ?_ GE163.out | refine below_set ?_ GE167.out) | exact HB.out)⟩
                            · rw [if_neg c18] at H
                              have c18b0 : ((t166.size : Int) == (wrap64 (1 + t159))) = false := beq_eq_false_iff_ne.mpr c18
                              have c18b1 : ((t166.size : Int) != (wrap64 (1 + t159))) = true := bne_iff_ne.mpr c18
                              exact absurd ((Option.some.inj H).trans hr_.out) (by decide)
                          · replace c17 := Bool.eq_false_iff.mpr c17
                            subst c17
                            have H1 : (some false) = some r := by rw [if_neg (show ¬ (false = true) by decide)] at H; exact H
                            clear H
                            have H := H1
                            clear H1
                            exact absurd ((Option.some.inj H).trans hr_.out) (by decide)
                        · rw [if_neg c16] at H
                          have c16b0 : ((t162.size : Int) == (wrap64 ((wrap64 (1 + t159)) + 2))) = false := beq_eq_false_iff_ne.mpr c16
                          have c16b1 : ((t162.size : Int) != (wrap64 ((wrap64 (1 + t159)) + 2))) = true := bne_iff_ne.mpr c16
                          exact absurd ((Option.some.inj H).trans hr_.out) (by decide)
                      · rw [if_neg c15] at H
                        have c15b0 : ((t161.size : Int) == (wrap64 (1 + (wrap64 (Int.tdiv t158 2))))) = false := beq_eq_false_iff_ne.mpr c15
                        have c15b1 : ((t161.size : Int) != (wrap64 (1 + (wrap64 (Int.tdiv t158 2))))) = true := bne_iff_ne.mpr c15
                        exact absurd ((Option.some.inj H).trans hr_.out) (by decide)
                    · replace c14 := Bool.eq_false_iff.mpr c14
                      subst c14
                      have H1 : (some false) = some r := by rw [if_neg (show ¬ (false = true) by decide)] at H; exact H
                      clear H
                      have H := H1
                      clear H1
                      exact absurd ((Option.some.inj H).trans hr_.out) (by decide)
                  · rw [if_neg c13] at H
                    have c13b0 : ((Int.tmod t158 2) == 0) = false := beq_eq_false_iff_ne.mpr c13
                    have c13b1 : ((Int.tmod t158 2) != 0) = true := bne_iff_ne.mpr c13
                    by_cases c29 : (t160 == ((Int.tmod t159 2) == 0)) = true
                    · rw [if_pos c29] at H
                      have c29b0 : (t160 == ((Int.tmod t159 2) == 0)) = true := c29
                      (try (have c29b1 : decide (t160 = ((Int.tmod t159 2) == 0)) = true := by simpa using c29))
                      (try (have c29b2 : (t160 == ((Int.tmod t159 2) == 0)) = true := by simpa using c29))
                      clear c29
                      by_cases c30 : (wrap64 ((t161.size : Int) + (t162.size : Int))) = (wrap64 ((wrap64 ((wrap64 ((wrap64 ((wrap64 (1 + (wrap64 (Int.tdiv t158 2)))) + 2)) + (wrap64 (Int.tdiv t159 2)))) + 1)) + (Int.tmod t159 2)))
                      · rw [if_pos c30] at H
                        have c30b0 : ((wrap64 ((t161.size : Int) + (t162.size : Int))) == (wrap64 ((wrap64 ((wrap64 ((wrap64 ((wrap64 (1 + (wrap64 (Int.tdiv t158 2)))) + 2)) + (wrap64 (Int.tdiv t159 2)))) + 1)) + (Int.tmod t159 2)))) = true := beq_iff_eq.mpr c30
                        have c30b1 : ((wrap64 ((t161.size : Int) + (t162.size : Int))) != (wrap64 ((wrap64 ((wrap64 ((wrap64 ((wrap64 (1 + (wrap64 (Int.tdiv t158 2)))) + 2)) + (wrap64 (Int.tdiv t159 2)))) + 1)) + (Int.tmod t159 2)))) = false := bne_eq_false_iff_eq.mpr c30
                        clear c30
                        by_cases c31 : t164 = true
                        · subst c31
                          have H1 : (some false) = some r := by rw [if_pos rfl] at H; exact H
                          clear H
                          have H := H1
                          clear H1
                          exact absurd ((Option.some.inj H).trans hr_.out) (by decide)
                        · replace c31 := Bool.eq_false_iff.mpr c31
                          subst c31
                          have H1 : (if (t165.size : Int) = (wrap64 ((wrap64 ((wrap64 (1 + (wrap64 (Int.tdiv t158 2)))) + 2)) + t159)) then ((wainwrightlaw02_awake.f).bind fun t169 => (some t169)) else (some false)) = some r := by rw [if_neg (show ¬ (false = true) by decide)] at H; exact H
                          clear H
                          have H := H1
                          clear H1
                          by_cases c32 : (t165.size : Int) = (wrap64 ((wrap64 ((wrap64 (1 + (wrap64 (Int.tdiv t158 2)))) + 2)) + t159))
                          · rw [if_pos c32] at H
                            have c32b0 : ((t165.size : Int) == (wrap64 ((wrap64 ((wrap64 (1 + (wrap64 (Int.tdiv t158 2)))) + 2)) + t159))) = true := beq_iff_eq.mpr c32
                            have c32b1 : ((t165.size : Int) != (wrap64 ((wrap64 ((wrap64 (1 + (wrap64 (Int.tdiv t158 2)))) + 2)) + t159))) = false := bne_eq_false_iff_eq.mpr c32
                            clear c32
                            replace H := Option.bind_eq_some_iff.mp H
                            obtain ⟨t169, A330, H⟩ := H
                            replace H : (some t169) = some r := H
                            have A33 := Aside0.mk A330
                            clear A330
                            obtain rfl := Option.some.inj H
                            go_wp2_with (first | ((with_reducible refine gate_callee (f := 23) rfl ?_); refine goesL_ (some 34) rfl rfl Try.func23 (by kernel_rfl) rfl #[.string (x7_2 ++ (⟨#[37, 99]⟩ : ByteArray))] rfl (by (try simp only [List.map_toArray, List.map_cons, List.map_nil]); first | done | rfl | (simp only [List.length_drop, List.length_take]; rfl)) ?_; (with_reducible refine (pattern_Of.calls (x7_2 ++ (⟨#[37, 99]⟩ : ByteArray)) t160 t161 t162 _ A11.out).mono ?_); rintro e w34 ⟨rfl, hb⟩; refine ⟨_, rfl, ?_⟩; have n0_ := Aside0.mk (below_step (by repeat (first | (with_reducible first | exact HB.out | apply below_alloc | apply pw_below_drewN | apply below_drew1) | exact HB.out)) hb); clear HB; have HB := n0_; clear n0_; (try clear hb); (try clear hb2); (try clear hk); (try clear hi)) | ((with_reducible refine gate_dst (N := 10) rfl ?_); (try (refine gate_guard (by rfl) ?_; dsimp only)); refine box_event ?hg (N := 10) ?hd (cs := #[.bool false, .string (⟨#[]⟩ : ByteArray), .string (⟨#[]⟩ : ByteArray)]) (t := 43) ?hr ?_; (case hd => rfl); (case hg => rfl); (case hr => first | (go_simp; done) | (go_simp; rfl)); intro gb163 hg w35 hbox hb; have n0_ := Aside0.mk (below_step (by repeat (first | (with_reducible first | exact HB.out | apply below_alloc | apply pw_below_drewN | apply below_drew1) | exact HB.out)) hb); have n1_ := Aside0.mk (hbox); have n2_ := Aside0.mk ((by rw [hg]; exact (below_size (by repeat (first | (with_reducible first | exact HB.out | apply below_alloc | apply pw_below_drewN | apply below_drew1) | exact HB.out))) : w.heap.size ≤ gb163)); have n3_ := Aside0.mk ((by rw [hg]; exact (below_size (by repeat (first | (with_reducible first | exact HB.out | apply below_alloc | apply pw_below_drewN | apply below_drew1) | exact HB.out))) : w.heap.size ≤ gb163)); clear HB; have HB := n0_; have BK163 := n1_; have GW163 := n2_; have GE163 := n3_; clear n0_ n1_ n2_ n3_; clear hb hbox hg; have hcz36_0 : w35.cell? ⟨gb163, 0, none⟩ = some (.bool false) := (blk_cell BK163.out 0).trans rfl; have hcz36_1 : w35.cell? ⟨gb163, 1, none⟩ = some (.string (⟨#[]⟩ : ByteArray)) := (blk_cell BK163.out 1).trans rfl; have hcz36_2 : w35.cell? ⟨gb163, 2, none⟩ = some (.string (⟨#[]⟩ : ByteArray)) := (blk_cell BK163.out 2).trans rfl; have hfz36_0 := blk_frozen BK163.out 0; have hfz36_1 := blk_frozen BK163.out 1; have hfz36_2 := blk_frozen BK163.out 2) | ((with_reducible refine gate_callee (f := 23) rfl ?_); refine goesL_ (some 36) rfl rfl Try.func23 (by kernel_rfl) rfl #[.string x7_2] rfl (by (try simp only [List.map_toArray, List.map_cons, List.map_nil]); first | done | rfl | (simp only [List.length_drop, List.length_take]; rfl)) ?_; (with_reducible refine (pattern_Of.calls x7_2 false t165 t166 _ A12.out).mono ?_); rintro e w37 ⟨rfl, hb⟩; refine ⟨_, rfl, ?_⟩; have n0_ := Aside0.mk (blk_below (g := gb163) (o := .cells #[.bool t160, .string t161, .string t162] 43 (0, 0)) (by (with_reducible repeat (first | refine blk_drewN ?_ _ | refine blk_drew ?_ | refine blk_alloc ?_ _)); refine blk_put (cs := #[.bool t160, .string t161, .string (⟨#[]⟩ : ByteArray)]) ?_ 2 _ rfl; (with_reducible repeat (first | refine blk_drewN ?_ _ | refine blk_drew ?_ | refine blk_alloc ?_ _)); refine blk_put (cs := #[.bool t160, .string (⟨#[]⟩ : ByteArray), .string (⟨#[]⟩ : ByteArray)]) ?_ 1 _ rfl; (with_reducible repeat (first | refine blk_drewN ?_ _ | refine blk_drew ?_ | refine blk_alloc ?_ _)); refine blk_put (cs := #[.bool false, .string (⟨#[]⟩ : ByteArray), .string (⟨#[]⟩ : ByteArray)]) ?_ 0 _ rfl; (with_reducible repeat (first | refine blk_drewN ?_ _ | refine blk_drew ?_ | refine blk_alloc ?_ _)); exact BK163.out) hb); have n1_ := Aside0.mk (below_step (by repeat (first | (with_reducible first | exact HB.out | apply below_alloc | apply pw_below_drewN | apply below_drew1 | refine below_set ?_ GE163.out) | exact HB.out)) hb); clear BK163; clear HB; have BK163 := n0_; have HB := n1_; clear n0_ n1_; (try clear hb); (try clear hb2); (try clear hk); (try clear hi)) | ((with_reducible refine gate_dst (N := 11) rfl ?_); (try (refine gate_guard (by rfl) ?_; dsimp only)); refine box_event ?hg (N := 11) ?hd (cs := #[.bool false, .string (⟨#[]⟩ : ByteArray), .string (⟨#[]⟩ : ByteArray)]) (t := 43) ?hr ?_; (case hd => rfl); (case hg => rfl); (case hr => first | (go_simp; done) | (go_simp; rfl)); intro gb167 hg w38 hbox hb; have n0_ := Aside0.mk (blk_below (g := gb163) (o := .cells #[.bool t160, .string t161, .string t162] 43 (0, 0)) (by (with_reducible repeat (first | refine blk_drewN ?_ _ | refine blk_drew ?_ | refine blk_alloc ?_ _)); exact BK163.out) hb); have n1_ := Aside0.mk (below_step (by repeat (first | (with_reducible first | exact HB.out | apply below_alloc | apply pw_below_drewN | apply below_drew1 | refine below_set ?_ GE163.out) | exact HB.out)) hb); have n2_ := Aside0.mk (hbox); have n3_ := Aside0.mk ((by rw [hg]; exact (below_size (by repeat (first | (with_reducible first | exact HB.out | apply below_alloc | apply pw_below_drewN | apply below_drew1 | refine below_set ?_ GE163.out) | exact HB.out))) : w.heap.size ≤ gb167)); have n4_ := Aside0.mk ((by rw [hg]; exact (below_size (by repeat (first | (with_reducible first | exact HB.out | apply below_alloc | apply pw_below_drewN | apply below_drew1 | refine below_set ?_ GE163.out) | exact HB.out))) : w.heap.size ≤ gb167)); have n5_ := Aside0.mk ((by rw [hg]; exact Nat.ne_of_lt (blk_lt (g := gb163) (o := .cells #[.bool t160, .string t161, .string t162] 43 (0, 0)) (by (with_reducible repeat (first | refine blk_drewN ?_ _ | refine blk_drew ?_ | refine blk_alloc ?_ _)); exact BK163.out)) : gb163 ≠ gb167)); have n6_ := Aside0.mk ((by rw [hg]; exact Nat.ne_of_gt (blk_lt (g := gb163) (o := .cells #[.bool t160, .string t161, .string t162] 43 (0, 0)) (by (with_reducible repeat (first | refine blk_drewN ?_ _ | refine blk_drew ?_ | refine blk_alloc ?_ _)); exact BK163.out)) : gb167 ≠ gb163)); clear BK163; clear HB; have BK163 := n0_; have HB := n1_; have BK167 := n2_; have GW167 := n3_; have GE167 := n4_; have NB163_167 := n5_; have NB167_163 := n6_; clear n0_ n1_ n2_ n3_ n4_ n5_ n6_; clear hb hbox hg; have hnb39 := NB167_163.out; have hnc39 := NB163_167.out; have hcz40_0 : w38.cell? ⟨gb167, 0, none⟩ = some (.bool false) := (blk_cell BK167.out 0).trans rfl; have hcz40_1 : w38.cell? ⟨gb167, 1, none⟩ = some (.string (⟨#[]⟩ : ByteArray)) := (blk_cell BK167.out 1).trans rfl; have hcz40_2 : w38.cell? ⟨gb167, 2, none⟩ = some (.string (⟨#[]⟩ : ByteArray)) := (blk_cell BK167.out 2).trans rfl; have hfz40_0 := blk_frozen BK167.out 0; have hfz40_1 := blk_frozen BK167.out 1; have hfz40_2 := blk_frozen BK167.out 2; have hcz41_0 : w38.cell? ⟨gb163, 0, none⟩ = some (.bool t160) := (blk_cell BK163.out 0).trans rfl; have hcz41_1 : w38.cell? ⟨gb163, 1, none⟩ = some (.string t161) := (blk_cell BK163.out 1).trans rfl; have hcz41_2 : w38.cell? ⟨gb163, 2, none⟩ = some (.string t162) := (blk_cell BK163.out 2).trans rfl; have hfz41_0 := blk_frozen BK163.out 0; have hfz41_1 := blk_frozen BK163.out 1; have hfz41_2 := blk_frozen BK163.out 2) | (go_at_call 22; (with_reducible refine (wainwrightlaw02_awake.calls  t169 _ A33.out).mono ?_); rintro e w42 ⟨rfl, hb⟩; have n0_ := Aside0.mk (blk_below (g := gb163) (o := .cells #[.bool t160, .string t161, .string t162] 43 (0, 0)) (by (with_reducible repeat (first | refine blk_drewN ?_ _ | refine blk_drew ?_ | refine blk_alloc ?_ _)); refine blk_far ?_ NB163_167.out _; (with_reducible repeat (first | refine blk_drewN ?_ _ | refine blk_drew ?_ | refine blk_alloc ?_ _)); refine blk_far ?_ NB163_167.out _; (with_reducible repeat (first | refine blk_drewN ?_ _ | refine blk_drew ?_ | refine blk_alloc ?_ _)); refine blk_far ?_ NB163_167.out _; (with_reducible repeat (first | refine blk_drewN ?_ _ | refine blk_drew ?_ | refine blk_alloc ?_ _)); exact BK163.out) hb); have n1_ := Aside0.mk (blk_below (g := gb167) (o := .cells #[.bool false, .string t165, .string t166] 43 (0, 0)) (by (with_reducible repeat (first | refine blk_drewN ?_ _ | refine blk_drew ?_ | refine blk_alloc ?_ _)); refine blk_put (cs := #[.bool false, .string t165, .string (⟨#[]⟩ : ByteArray)]) ?_ 2 _ rfl; (with_reducible repeat (first | refine blk_drewN ?_ _ | refine blk_drew ?_ | refine blk_alloc ?_ _)); refine blk_put (cs := #[.bool false, .string (⟨#[]⟩ : ByteArray), .string (⟨#[]⟩ : ByteArray)]) ?_ 1 _ rfl; (with_reducible repeat (first | refine blk_drewN ?_ _ | refine blk_drew ?_ | refine blk_alloc ?_ _)); refine blk_put (cs := #[.bool false, .string (⟨#[]⟩ : ByteArray), .string (⟨#[]⟩ : ByteArray)]) ?_ 0 _ rfl; (with_reducible repeat (first | refine blk_drewN ?_ _ | refine blk_drew ?_ | refine blk_alloc ?_ _)); exact BK167.out) hb); have n2_ := Aside0.mk (below_step (by repeat (first | (with_reducible first | exact HB.out | apply below_alloc | apply pw_below_drewN | apply below_drew1 | refine below_set ?_ GE163.out | refine below_set ?_ GE167.out) | exact HB.out)) hb); clear BK163; clear BK167; clear HB; have BK163 := n0_; have BK167 := n1_; have HB := n2_; clear n0_ n1_ n2_; (try clear hb); (try clear hb2); (try clear hk); (try clear hi)))
                            go_ret
                            exact ⟨by first | rfl | (simp [errW_none, errW_some] <;> rfl) | (simp [*, errW_none, errW_some] <;> rfl), by repeat (first | (with_reducible first | exact HB.out | apply below_alloc | apply pw_below_drewN | apply below_drew1 | refine below_set ?_ GE163.out | refine below_set ?_ GE167.out) | exact HB.out)⟩
                          · rw [if_neg c32] at H
                            have c32b0 : ((t165.size : Int) == (wrap64 ((wrap64 ((wrap64 (1 + (wrap64 (Int.tdiv t158 2)))) + 2)) + t159))) = false := beq_eq_false_iff_ne.mpr c32
                            have c32b1 : ((t165.size : Int) != (wrap64 ((wrap64 ((wrap64 (1 + (wrap64 (Int.tdiv t158 2)))) + 2)) + t159))) = true := bne_iff_ne.mpr c32
                            exact absurd ((Option.some.inj H).trans hr_.out) (by decide)
                      · rw [if_neg c30] at H
                        have c30b0 : ((wrap64 ((t161.size : Int) + (t162.size : Int))) == (wrap64 ((wrap64 ((wrap64 ((wrap64 ((wrap64 (1 + (wrap64 (Int.tdiv t158 2)))) + 2)) + (wrap64 (Int.tdiv t159 2)))) + 1)) + (Int.tmod t159 2)))) = false := beq_eq_false_iff_ne.mpr c30
                        have c30b1 : ((wrap64 ((t161.size : Int) + (t162.size : Int))) != (wrap64 ((wrap64 ((wrap64 ((wrap64 ((wrap64 (1 + (wrap64 (Int.tdiv t158 2)))) + 2)) + (wrap64 (Int.tdiv t159 2)))) + 1)) + (Int.tmod t159 2)))) = true := bne_iff_ne.mpr c30
                        exact absurd ((Option.some.inj H).trans hr_.out) (by decide)
                    · rw [if_neg c29] at H
                      have c29b0 : (t160 == ((Int.tmod t159 2) == 0)) = false := by simpa using c29
                      (try (have c29b1 : decide (t160 = ((Int.tmod t159 2) == 0)) = false := by simpa using c29))
                      (try (have c29b2 : (t160 == ((Int.tmod t159 2) == 0)) = false := by simpa using c29))
                      (try (have c29b3 : ¬ (t160 = ((Int.tmod t159 2) == 0)) := by simpa using c29))
                      clear c29
                      exact absurd ((Option.some.inj H).trans hr_.out) (by decide)
                · rw [if_neg c10] at H
                  exact absurd H (by simp)
        · rw [if_neg c7] at H
          exact absurd H (by simp)

/-- THE ONE PURE STATEMENT of wainwrightlaw02_PatternBacks: yours. -/
def wainwrightlaw02_PatternBacks.Pure : Prop := ∀ (a0 : Int) (a1 : Int), (Lit.int .i64 a0).wf = true → (Lit.int .i64 a1).wf = true → ∃ k, wainwrightlaw02_PatternBacks.f k a0 a1 = some true
theorem wainwrightlaw02_PatternBacks.walk (P : wainwrightlaw02_PatternBacks.Pure) (a0 : Int) (a1 : Int) (w : World) (w0 : (Lit.int .i64 a0).wf = true) (w1 : (Lit.int .i64 a1).wf = true) :
    Calls Try.prog 9 #[.int .i64 a0, .int .i64 a1] w fun e w' => e = .returned (.bool true) ∧ Below w.heap.size w w' := by
  obtain ⟨k, h⟩ := P a0 a1 w0 w1
  refine (wainwrightlaw02_PatternBacks.calls k a0 a1 true (show Hid (true = true) from rfl) w h).mono ?_
  rintro e w' ⟨rfl, hd⟩
  exact ⟨rfl, hd⟩

end Go.Proofs.Ytabdjijlmiobhaa.P
