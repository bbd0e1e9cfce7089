-- Written by a program of this session (wip/tools) out of the translation, over the kit's print. Not trusted: Lean checks it.
import Derived.Test.YtpoekljclapbfaaPx0
import Derived.Test.YtpoekljclapbfaaPx8
namespace Go.Proofs.Ytpoekljclapbfaa.G
end Go.Proofs.Ytpoekljclapbfaa.G
namespace Go.Proofs.Ytpoekljclapbfaa.P0
end Go.Proofs.Ytpoekljclapbfaa.P0
namespace Go.Proofs.Ytpoekljclapbfaa.P
open Go.Proofs.Ytpoekljclapbfaa.G Go.Proofs.Ytpoekljclapbfaa.P0
open Go.RowKit Go.Proofs.YtpoekljclapbfaaW.PrintWords Go.Proofs.YtpoekljclapbfaaW.PrintLast Go.Proofs.YtpoekljclapbfaaW.PrintMore
attribute [local go_sem] max2_int min2_int max_two min_two max_three min_three max_four min_four   -- for this text's walks alone
set_option linter.unusedVariables false
set_option linter.unusedSimpArgs false

/-! ### wainwrightlaw03_GlobPlain_1: function 15 -/
def wainwrightlaw03_GlobPlain_1.l0 : Nat → List Int → ByteArray → ByteArray → Int → Option (ByteArray)
  | 0, _, _, _, _ => none
  | k + 1, x0, x1, x5, x6 => if x6 < (x0.length : Int) then (if x6 < 20 then (if 0 ≤ x6 then ((wainwrightlaw00_Place.f (rd x0 x6) 6).bind fun t131 => (if 0 ≤ t131 then (if t131 < 6 then (if x5.size + (rdOf ByteArray.empty ([(⟨#[97]⟩ : ByteArray), (⟨#[98]⟩ : ByteArray), (⟨#[97, 98]⟩ : ByteArray), x1, (⟨#[99]⟩ : ByteArray), (⟨#[98]⟩ : ByteArray)] : List ByteArray) t131).size ≤ 9223372036854775807 then (wainwrightlaw03_GlobPlain_1.l0 k x0 x1 (x5 ++ (rdOf ByteArray.empty ([(⟨#[97]⟩ : ByteArray), (⟨#[98]⟩ : ByteArray), (⟨#[97, 98]⟩ : ByteArray), x1, (⟨#[99]⟩ : ByteArray), (⟨#[98]⟩ : ByteArray)] : List ByteArray) t131)) (wrap64 (x6 + 1))) else (none)) else (none)) else (none))) else (none)) else (some x5)) else (some x5)
def wainwrightlaw03_GlobPlain_1.f (k : Nat) (l0 : List Int) (a1 : ByteArray) : Option (ByteArray) := wainwrightlaw03_GlobPlain_1.l0 k l0 a1 (⟨#[]⟩ : ByteArray) 0
theorem wainwrightlaw03_GlobPlain_1.mono_l : ∀ k, (∀ y0 y1 y2 y3, LeO (wainwrightlaw03_GlobPlain_1.l0 k y0 y1 y2 y3) (wainwrightlaw03_GlobPlain_1.l0 (k + 1) y0 y1 y2 y3))
  | 0 => fun _ _ _ _ r h => by simp [wainwrightlaw03_GlobPlain_1.l0] at h
  | k + 1 => by
    have ih0 := wainwrightlaw03_GlobPlain_1.mono_l k
    · intro y0 y1 y2 y3
      unfold wainwrightlaw03_GlobPlain_1.l0
      repeat' first
      | (with_reducible exact ih0 _ _ _ _)
      | (with_reducible exact LeO.refl _)
      | (with_reducible exact LeO.none _)
      | (with_reducible refine LeO.ite ?_ ?_)
      | (with_reducible refine LeO.bind ?_ (fun _ => ?_))
      | exact ih0 _ _ _ _
      | exact LeO.none _
      | refine LeO.ite ?_ ?_
      | refine LeO.bind ?_ (fun _ => ?_)
theorem wainwrightlaw03_GlobPlain_1.mono : ∀ a0 a1 k, LeO (wainwrightlaw03_GlobPlain_1.f k a0 a1) (wainwrightlaw03_GlobPlain_1.f (k + 1) a0 a1) := by
  intro a0 a1 k
  have ih0 := wainwrightlaw03_GlobPlain_1.mono_l k
  unfold wainwrightlaw03_GlobPlain_1.f
  repeat' first
      | (with_reducible exact ih0 _ _ _ _)
      | (with_reducible exact LeO.refl _)
      | (with_reducible exact LeO.none _)
      | (with_reducible refine LeO.ite ?_ ?_)
      | (with_reducible refine LeO.bind ?_ (fun _ => ?_))
      | exact ih0 _ _ _ _
      | exact LeO.none _
      | refine LeO.ite ?_ ?_
      | refine LeO.bind ?_ (fun _ => ?_)
theorem wainwrightlaw03_GlobPlain_1.ix0 (a1 : ByteArray) : ∀ m_ : Nat, m_ < 6 → ∀ w_, (Instr.index 30 (.agg #[.string (⟨#[97]⟩ : ByteArray), .string (⟨#[98]⟩ : ByteArray), .string (⟨#[97, 98]⟩ : ByteArray), .string a1, .string (⟨#[99]⟩ : ByteArray), .string (⟨#[98]⟩ : ByteArray)]) (.int .i64 (m_ : Int))).run Try.prog w_ = .ok (.string (rdOf ByteArray.empty ([(⟨#[97]⟩ : ByteArray), (⟨#[98]⟩ : ByteArray), (⟨#[97, 98]⟩ : ByteArray), a1, (⟨#[99]⟩ : ByteArray), (⟨#[98]⟩ : ByteArray)] : List ByteArray) (m_ : Int))) w_
  | 0, _, _ => by kernel_rfl
  | 1, _, _ => by kernel_rfl
  | 2, _, _ => by kernel_rfl
  | 3, _, _ => by kernel_rfl
  | 4, _, _ => by kernel_rfl
  | 5, _, _ => by kernel_rfl
  | m2_ + 6, h2_, _ => absurd h2_ (by omega)
set_option maxHeartbeats 8000000 in
set_option maxRecDepth 100000 in
theorem wainwrightlaw03_GlobPlain_1.calls (k : Nat) (A0 : Option Addr) (c0 : Nat) (l0 : List Int) (a1 : ByteArray) (r : ByteArray) (w : World) (hr0 : Kd.C (Kd.int .i64) w A0 l0.length l0) (hc0 : l0.length ≤ c0) (h : wainwrightlaw03_GlobPlain_1.f k l0 a1 = some r) :
    Calls Try.prog 15 #[.slice A0 l0.length c0, .string a1] w fun e w' => e = .returned (.string r) ∧ Drawn0 w w' := by
  have HR0 := Aside0.mk hr0
  have HC0 := Aside0.mk hc0
  clear hr0 hc0
  have H : (wainwrightlaw03_GlobPlain_1.l0 k l0 a1 (⟨#[]⟩ : ByteArray) 0) = some r := h
  clear h
  have H' := Aside0.mk H
  clear H
  go_enter Try.func15, Try.ntmps15
  go_wp2
  go_loopg [5, 6] k (fun kq v5 v6 w' => ∃ (x5_1 : ByteArray) (x6_1 : Int), v5 = .string x5_1 ∧ v6 = .int .i64 x6_1 ∧ Aside0 (wainwrightlaw03_GlobPlain_1.l0 kq l0 a1 x5_1 x6_1 = some r) ∧ Aside0 (kq ≤ k) ∧ Drawn0 w w')
  case atStart => exact ⟨((⟨#[]⟩ : ByteArray)), (0), (by first | rfl | (simp; done) | (simp [wrap64]; done) | (simp [*]; done)), (by first | rfl | (simp; done) | (simp [wrap64]; done) | (simp [*]; done)), H', ⟨Nat.le_refl _⟩, by repeat (first | exact Drawn0.refl _ | apply Drawn0.step)⟩
  case round =>
    clear H'
    try clear c1
    try clear p2
    obtain ⟨x5_1, x6_1, rfl, rfl, HA, HK1, ⟨m1, rfl⟩⟩ := hrel
    cases gk with
    | zero => exact absurd HA.out (by simp [wainwrightlaw03_GlobPlain_1.l0])
    | succ k1 =>
      have H := HA.out
      clear HA
      simp only [wainwrightlaw03_GlobPlain_1.l0] at H
      by_cases c3 : x6_1 < (l0.length : Int)
      · rw [if_pos c3] at H
        have c3b0 : decide (x6_1 < (l0.length : Int)) = true := decide_eq_true c3
        clear c3
        by_cases c4 : x6_1 < 20
        · rw [if_pos c4] at H
          have c4b0 : decide (x6_1 < 20) = true := decide_eq_true c4
          clear c4
          by_cases c5 : 0 ≤ x6_1
          · rw [if_pos c5] at H
            have c5b0 : decide (0 ≤ x6_1) = true := decide_eq_true c5
            clear c5
            replace H := Option.bind_eq_some_iff.mp H
            obtain ⟨t131, A60, H⟩ := H
            replace H : (if 0 ≤ t131 then (if t131 < 6 then (if x5_1.size + (rdOf ByteArray.empty ([(⟨#[97]⟩ : ByteArray), (⟨#[98]⟩ : ByteArray), (⟨#[97, 98]⟩ : ByteArray), a1, (⟨#[99]⟩ : ByteArray), (⟨#[98]⟩ : ByteArray)] : List ByteArray) t131).size ≤ 9223372036854775807 then (wainwrightlaw03_GlobPlain_1.l0 k1 l0 a1 (x5_1 ++ (rdOf ByteArray.empty ([(⟨#[97]⟩ : ByteArray), (⟨#[98]⟩ : ByteArray), (⟨#[97, 98]⟩ : ByteArray), a1, (⟨#[99]⟩ : ByteArray), (⟨#[98]⟩ : ByteArray)] : List ByteArray) t131)) (wrap64 (x6_1 + 1))) else (none)) else (none)) else (none)) = some r := H
            have A6 := Aside0.mk A60
            clear A60
            by_cases c7 : 0 ≤ t131
            · rw [if_pos c7] at H
              have c7b0 : decide (0 ≤ t131) = true := decide_eq_true c7
              clear c7
              by_cases c8 : t131 < 6
              · rw [if_pos c8] at H
                have c8b0 : decide (t131 < 6) = true := decide_eq_true c8
                clear c8
                by_cases c10 : x5_1.size + (rdOf ByteArray.empty ([(⟨#[97]⟩ : ByteArray), (⟨#[98]⟩ : ByteArray), (⟨#[97, 98]⟩ : ByteArray), a1, (⟨#[99]⟩ : ByteArray), (⟨#[98]⟩ : ByteArray)] : List ByteArray) t131).size ≤ 9223372036854775807
                · rw [if_pos c10] at H
                  have c10b0 := eq_true c10
                  have c10b1 : decide (x5_1.size + (rdOf ByteArray.empty ([(⟨#[97]⟩ : ByteArray), (⟨#[98]⟩ : ByteArray), (⟨#[97, 98]⟩ : ByteArray), a1, (⟨#[99]⟩ : ByteArray), (⟨#[98]⟩ : ByteArray)] : List ByteArray) t131).size ≤ 9223372036854775807) = true := decide_eq_true c10
                  try have c10b2 : (9223372036854775807 < x5_1.size + (rdOf ByteArray.empty ([(⟨#[97]⟩ : ByteArray), (⟨#[98]⟩ : ByteArray), (⟨#[97, 98]⟩ : ByteArray), a1, (⟨#[99]⟩ : ByteArray), (⟨#[98]⟩ : ByteArray)] : List ByteArray) t131).size) = False := eq_false (Nat.not_lt.2 c10)
                  have H' := Aside0.mk H
                  clear H
                  have p130 : 0 ≤ (x6_1 : Int) := of_decide_eq_true (by first | (with_reducible assumption) | assumption)
                  have q130 : x6_1 < (l0.length : Int) := of_decide_eq_true (by first | (with_reducible assumption) | assumption)
                  obtain ⟨ad130, e130, hx130_0⟩ := Kd.at_int HR0.out x6_1 p130 q130
                  cases e130
                  replace p130 := eq_true p130
                  replace q130 := eq_true q130
                  go_wp2_with (first | ((with_reducible refine gate_callee (f := 7) rfl ?_); refine goesL_ (some 24) rfl rfl Try.func7 (by kernel_rfl) rfl #[.int .i64 (rd l0 x6_1), .int .i64 6] rfl (by (try simp only [List.map_toArray, List.map_cons, List.map_nil]); first | done | rfl | (simp only [List.length_drop, List.length_take]; rfl)) ?_; (with_reducible refine (wainwrightlaw00_Place.calls (rd l0 x6_1) 6 t131 _ A6.out).mono ?_); rintro e w' ⟨rfl, ⟨nd, rfl⟩⟩; refine ⟨_, rfl, ?_⟩; have p9 : 0 ≤ (t131 : Int) := of_decide_eq_true (by first | (with_reducible assumption) | assumption); have q9 : (t131 : Int) < 6 := of_decide_eq_true (by first | (with_reducible assumption) | assumption); have hx9 : ∀ w_, (Instr.index 30 (.agg #[.string (⟨#[97]⟩ : ByteArray), .string (⟨#[98]⟩ : ByteArray), .string (⟨#[97, 98]⟩ : ByteArray), .string a1, .string (⟨#[99]⟩ : ByteArray), .string (⟨#[98]⟩ : ByteArray)]) (.int .i64 t131)).run Try.prog w_ = .ok (.string (rdOf ByteArray.empty ([(⟨#[97]⟩ : ByteArray), (⟨#[98]⟩ : ByteArray), (⟨#[97, 98]⟩ : ByteArray), a1, (⟨#[99]⟩ : ByteArray), (⟨#[98]⟩ : ByteArray)] : List ByteArray) t131)) w_ := (by intro w_; obtain ⟨m_, em_⟩ := Int.eq_ofNat_of_zero_le p9; rw [em_] at q9 ⊢; exact wainwrightlaw03_GlobPlain_1.ix0 _ m_ (by omega) w_); clear p9 q9))
                  go_roundg k1
                  case measure => have := HK1.out; omega
                  case rel => exact ⟨(x5_1 ++ (rdOf ByteArray.empty ([(⟨#[97]⟩ : ByteArray), (⟨#[98]⟩ : ByteArray), (⟨#[97, 98]⟩ : ByteArray), a1, (⟨#[99]⟩ : ByteArray), (⟨#[98]⟩ : ByteArray)] : List ByteArray) t131)), (wrap64 (x6_1 + 1)), (by first | rfl | (simp; done) | (simp [wrap64]; done) | (simp [*]; done)), (by first | rfl | (simp; done) | (simp [wrap64]; done) | (simp [*]; done)), H', ⟨by have := HK1.out; omega⟩, by repeat (first | exact Drawn0.refl _ | apply Drawn0.step)⟩
                · rw [if_neg c10] at H
                  exact absurd H (by simp)
              · rw [if_neg c8] at H
                exact absurd H (by simp)
            · rw [if_neg c7] at H
              exact absurd H (by simp)
          · rw [if_neg c5] at H
            exact absurd H (by simp)
        · rw [if_neg c4] at H
          have c4b0 : decide (x6_1 < 20) = false := decide_eq_false c4
          clear c4
          obtain rfl := Option.some.inj H
          go_wp2
          go_ret
          exact ⟨by first | rfl | (simp; done) | (simp [wrap64]; done) | (simp [*]; done), by repeat (first | exact Drawn0.refl _ | apply Drawn0.step)⟩
      · rw [if_neg c3] at H
        have c3b0 : decide (x6_1 < (l0.length : Int)) = false := decide_eq_false c3
        clear c3
        obtain rfl := Option.some.inj H
        go_wp2
        go_ret
        exact ⟨by first | rfl | (simp; done) | (simp [wrap64]; done) | (simp [*]; done), by repeat (first | exact Drawn0.refl _ | apply Drawn0.step)⟩

end Go.Proofs.Ytpoekljclapbfaa.P
