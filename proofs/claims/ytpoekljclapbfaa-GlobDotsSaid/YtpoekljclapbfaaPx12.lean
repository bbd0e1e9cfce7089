-- Written by a program of this session (wip/tools) out of the translation, over the kit's print. Not trusted: Lean checks it.
import Derived.Test.YtpoekljclapbfaaPx0
import Derived.Test.YtpoekljclapbfaaPx6
import Derived.Test.YtpoekljclapbfaaPx8
namespace Go.Proofs.Ytpoekljclapbfaa.G
end Go.Proofs.Ytpoekljclapbfaa.G
namespace Go.Proofs.Ytpoekljclapbfaa.P0
end Go.Proofs.Ytpoekljclapbfaa.P0
namespace Go.Proofs.Ytpoekljclapbfaa.P
open Go.Proofs.Ytpoekljclapbfaa.G Go.Proofs.Ytpoekljclapbfaa.P0
open Go.RowKit Go.Proofs.YtpoekljclapbfaaW.PrintWords Go.Proofs.YtpoekljclapbfaaW.PrintLast Go.Proofs.YtpoekljclapbfaaW.PrintMore
attribute [local go_sem] max2_int min2_int max_two min_two max_three min_three max_four min_four   -- for this text's walks alone
set_option linter.unusedVariables false
set_option linter.unusedSimpArgs false

/-! ### wainwrightlaw03_GlobDots: function 6 -/
def wainwrightlaw03_GlobDots.f (k : Nat) (a0 : Int) : Option (Bool) := (wainwrightlaw00_Place.f a0 3).bind fun t158 => (if 0 ≤ (wrap64 (1 + t158)) then (if (wrap64 (1 + t158)) ≤ 3 then ((glob_Match.f k (⟨#[42]⟩ : ByteArray) ((⟨#[46, 97, 98]⟩ : ByteArray).extract 0 ((wrap64 (1 + t158)) : Int).toNat)).bind fun t159 => (if t159 = true then (some false) else ((glob_Match.f k (⟨#[46, 42]⟩ : ByteArray) ((⟨#[46, 97, 98]⟩ : ByteArray).extract 0 ((wrap64 (1 + t158)) : Int).toNat)).bind fun t160 => (if t160 = true then ((glob_Match.f k (⟨#[92, 46, 42]⟩ : ByteArray) ((⟨#[46, 97, 98]⟩ : ByteArray).extract 0 ((wrap64 (1 + t158)) : Int).toNat)).bind fun t161 => (if t161 = true then ((glob_Match.f k (⟨#[91, 46, 93, 42]⟩ : ByteArray) ((⟨#[46, 97, 98]⟩ : ByteArray).extract 0 ((wrap64 (1 + t158)) : Int).toNat)).bind fun t162 => (if t162 = true then (some false) else ((glob_Match.f k (⟨#[63, 42]⟩ : ByteArray) ((⟨#[46, 97, 98]⟩ : ByteArray).extract 0 ((wrap64 (1 + t158)) : Int).toNat)).bind fun t163 => (if t163 = true then (some false) else (if 1 + ((⟨#[46, 97, 98]⟩ : ByteArray).extract 0 ((wrap64 (1 + t158)) : Int).toNat).size ≤ 9223372036854775807 then ((glob_Match.f k (⟨#[120, 42]⟩ : ByteArray) ((⟨#[120]⟩ : ByteArray) ++ ((⟨#[46, 97, 98]⟩ : ByteArray).extract 0 ((wrap64 (1 + t158)) : Int).toNat))).bind fun t164 => (if t164 = true then ((glob_Match.f k ((⟨#[46, 97, 98]⟩ : ByteArray).extract 0 ((wrap64 (1 + t158)) : Int).toNat) ((⟨#[46, 97, 98]⟩ : ByteArray).extract 0 ((wrap64 (1 + t158)) : Int).toNat)).bind fun t165 => (if t165 = true then ((wainwrightlaw03_awake.f k).bind fun t166 => (some t166)) else (some false))) else (some false))) else (none)))))) else (some false))) else (some false))))) else (none)) else (none))
theorem wainwrightlaw03_GlobDots.mono : ∀ a0 k, LeO (wainwrightlaw03_GlobDots.f k a0) (wainwrightlaw03_GlobDots.f (k + 1) a0) := by
  intro a0 k
  unfold wainwrightlaw03_GlobDots.f
  repeat' first
      | (with_reducible exact glob_Match.mono _ _ _)
      | (with_reducible exact wainwrightlaw03_awake.mono _)
      | (with_reducible exact LeO.refl _)
      | (with_reducible exact LeO.none _)
      | (with_reducible refine LeO.ite ?_ ?_)
      | (with_reducible refine LeO.bind ?_ (fun _ => ?_))
      | exact glob_Match.mono _ _ _
      | exact wainwrightlaw03_awake.mono _
      | exact LeO.none _
      | refine LeO.ite ?_ ?_
      | refine LeO.bind ?_ (fun _ => ?_)
set_option maxHeartbeats 8000000 in
set_option maxRecDepth 100000 in
theorem wainwrightlaw03_GlobDots.calls (k : Nat) (a0 : Int) (r : Bool) (hr_ : Hid (r = true)) (w : World) (h : wainwrightlaw03_GlobDots.f k a0 = some r) :
    Calls Try.prog 6 #[.int .i64 a0] w fun e w' => e = .returned (.bool r) ∧ Below w.heap.size w w' := by
  have HB := Aside0.mk (Below.refl w.heap.size w)
  have H : ((wainwrightlaw00_Place.f a0 3).bind fun t158 => (if 0 ≤ (wrap64 (1 + t158)) then (if (wrap64 (1 + t158)) ≤ 3 then ((glob_Match.f k (⟨#[42]⟩ : ByteArray) ((⟨#[46, 97, 98]⟩ : ByteArray).extract 0 ((wrap64 (1 + t158)) : Int).toNat)).bind fun t159 => (if t159 = true then (some false) else ((glob_Match.f k (⟨#[46, 42]⟩ : ByteArray) ((⟨#[46, 97, 98]⟩ : ByteArray).extract 0 ((wrap64 (1 + t158)) : Int).toNat)).bind fun t160 => (if t160 = true then ((glob_Match.f k (⟨#[92, 46, 42]⟩ : ByteArray) ((⟨#[46, 97, 98]⟩ : ByteArray).extract 0 ((wrap64 (1 + t158)) : Int).toNat)).bind fun t161 => (if t161 = true then ((glob_Match.f k (⟨#[91, 46, 93, 42]⟩ : ByteArray) ((⟨#[46, 97, 98]⟩ : ByteArray).extract 0 ((wrap64 (1 + t158)) : Int).toNat)).bind fun t162 => (if t162 = true then (some false) else ((glob_Match.f k (⟨#[63, 42]⟩ : ByteArray) ((⟨#[46, 97, 98]⟩ : ByteArray).extract 0 ((wrap64 (1 + t158)) : Int).toNat)).bind fun t163 => (if t163 = true then (some false) else (if 1 + ((⟨#[46, 97, 98]⟩ : ByteArray).extract 0 ((wrap64 (1 + t158)) : Int).toNat).size ≤ 9223372036854775807 then ((glob_Match.f k (⟨#[120, 42]⟩ : ByteArray) ((⟨#[120]⟩ : ByteArray) ++ ((⟨#[46, 97, 98]⟩ : ByteArray).extract 0 ((wrap64 (1 + t158)) : Int).toNat))).bind fun t164 => (if t164 = true then ((glob_Match.f k ((⟨#[46, 97, 98]⟩ : ByteArray).extract 0 ((wrap64 (1 + t158)) : Int).toNat) ((⟨#[46, 97, 98]⟩ : ByteArray).extract 0 ((wrap64 (1 + t158)) : Int).toNat)).bind fun t165 => (if t165 = true then ((wainwrightlaw03_awake.f k).bind fun t166 => (some t166)) else (some false))) else (some false))) else (none)))))) else (some false))) else (some false))))) else (none)) else (none))) = some r := h
  clear h
  replace H := Option.bind_eq_some_iff.mp H
  obtain ⟨t158, A20, H⟩ := H
  replace H : (if 0 ≤ (wrap64 (1 + t158)) then (if (wrap64 (1 + t158)) ≤ 3 then ((glob_Match.f k (⟨#[42]⟩ : ByteArray) ((⟨#[46, 97, 98]⟩ : ByteArray).extract 0 ((wrap64 (1 + t158)) : Int).toNat)).bind fun t159 => (if t159 = true then (some false) else ((glob_Match.f k (⟨#[46, 42]⟩ : ByteArray) ((⟨#[46, 97, 98]⟩ : ByteArray).extract 0 ((wrap64 (1 + t158)) : Int).toNat)).bind fun t160 => (if t160 = true then ((glob_Match.f k (⟨#[92, 46, 42]⟩ : ByteArray) ((⟨#[46, 97, 98]⟩ : ByteArray).extract 0 ((wrap64 (1 + t158)) : Int).toNat)).bind fun t161 => (if t161 = true then ((glob_Match.f k (⟨#[91, 46, 93, 42]⟩ : ByteArray) ((⟨#[46, 97, 98]⟩ : ByteArray).extract 0 ((wrap64 (1 + t158)) : Int).toNat)).bind fun t162 => (if t162 = true then (some false) else ((glob_Match.f k (⟨#[63, 42]⟩ : ByteArray) ((⟨#[46, 97, 98]⟩ : ByteArray).extract 0 ((wrap64 (1 + t158)) : Int).toNat)).bind fun t163 => (if t163 = true then (some false) else (if 1 + ((⟨#[46, 97, 98]⟩ : ByteArray).extract 0 ((wrap64 (1 + t158)) : Int).toNat).size ≤ 9223372036854775807 then ((glob_Match.f k (⟨#[120, 42]⟩ : ByteArray) ((⟨#[120]⟩ : ByteArray) ++ ((⟨#[46, 97, 98]⟩ : ByteArray).extract 0 ((wrap64 (1 + t158)) : Int).toNat))).bind fun t164 => (if t164 = true then ((glob_Match.f k ((⟨#[46, 97, 98]⟩ : ByteArray).extract 0 ((wrap64 (1 + t158)) : Int).toNat) ((⟨#[46, 97, 98]⟩ : ByteArray).extract 0 ((wrap64 (1 + t158)) : Int).toNat)).bind fun t165 => (if t165 = true then ((wainwrightlaw03_awake.f k).bind fun t166 => (some t166)) else (some false))) else (some false))) else (none)))))) else (some false))) else (some false))))) else (none)) else (none)) = some r := H
  have A2 := Aside0.mk A20
  clear A20
  obtain ⟨ji3, hji3⟩ : ∃ j_ : Int, (wrap64 (1 + t158)) = j_ := ⟨_, rfl⟩
  replace H : (if 0 ≤ (ji3) then (if (ji3) ≤ 3 then ((glob_Match.f k (⟨#[42]⟩ : ByteArray) ((⟨#[46, 97, 98]⟩ : ByteArray).extract 0 ((ji3) : Int).toNat)).bind fun t159 => (if t159 = true then (some false) else ((glob_Match.f k (⟨#[46, 42]⟩ : ByteArray) ((⟨#[46, 97, 98]⟩ : ByteArray).extract 0 ((ji3) : Int).toNat)).bind fun t160 => (if t160 = true then ((glob_Match.f k (⟨#[92, 46, 42]⟩ : ByteArray) ((⟨#[46, 97, 98]⟩ : ByteArray).extract 0 ((ji3) : Int).toNat)).bind fun t161 => (if t161 = true then ((glob_Match.f k (⟨#[91, 46, 93, 42]⟩ : ByteArray) ((⟨#[46, 97, 98]⟩ : ByteArray).extract 0 ((ji3) : Int).toNat)).bind fun t162 => (if t162 = true then (some false) else ((glob_Match.f k (⟨#[63, 42]⟩ : ByteArray) ((⟨#[46, 97, 98]⟩ : ByteArray).extract 0 ((ji3) : Int).toNat)).bind fun t163 => (if t163 = true then (some false) else (if 1 + ((⟨#[46, 97, 98]⟩ : ByteArray).extract 0 ((ji3) : Int).toNat).size ≤ 9223372036854775807 then ((glob_Match.f k (⟨#[120, 42]⟩ : ByteArray) ((⟨#[120]⟩ : ByteArray) ++ ((⟨#[46, 97, 98]⟩ : ByteArray).extract 0 ((ji3) : Int).toNat))).bind fun t164 => (if t164 = true then ((glob_Match.f k ((⟨#[46, 97, 98]⟩ : ByteArray).extract 0 ((ji3) : Int).toNat) ((⟨#[46, 97, 98]⟩ : ByteArray).extract 0 ((ji3) : Int).toNat)).bind fun t165 => (if t165 = true then ((wainwrightlaw03_awake.f k).bind fun t166 => (some t166)) else (some false))) else (some false))) else (none)))))) else (some false))) else (some false))))) else (none)) else (none)) = some r := by first | (rw [hji3] at H; exact H) | (simp only [hji3] at H ⊢; exact H) | exact H
  (try rw [hji3] at A2)
  have hji3w : (IntKind.i64.wrap (1 + t158)) = ji3 := (i64_w _).trans hji3
  by_cases c4 : 0 ≤ (ji3)
  · rw [if_pos c4] at H
    have c4b0 := eq_true c4
    have c4b1 : decide (0 ≤ (ji3)) = true := decide_eq_true c4
    clear c4
    by_cases c5 : (ji3) ≤ 3
    · rw [if_pos c5] at H
      have c5b0 := eq_true c5
      have c5b1 : decide ((ji3) ≤ 3) = true := decide_eq_true c5
      clear c5
      replace H := Option.bind_eq_some_iff.mp H
      obtain ⟨t159, A60, H⟩ := H
      replace H : (if t159 = true then (some false) else ((glob_Match.f k (⟨#[46, 42]⟩ : ByteArray) ((⟨#[46, 97, 98]⟩ : ByteArray).extract 0 ((ji3) : Int).toNat)).bind fun t160 => (if t160 = true then ((glob_Match.f k (⟨#[92, 46, 42]⟩ : ByteArray) ((⟨#[46, 97, 98]⟩ : ByteArray).extract 0 ((ji3) : Int).toNat)).bind fun t161 => (if t161 = true then ((glob_Match.f k (⟨#[91, 46, 93, 42]⟩ : ByteArray) ((⟨#[46, 97, 98]⟩ : ByteArray).extract 0 ((ji3) : Int).toNat)).bind fun t162 => (if t162 = true then (some false) else ((glob_Match.f k (⟨#[63, 42]⟩ : ByteArray) ((⟨#[46, 97, 98]⟩ : ByteArray).extract 0 ((ji3) : Int).toNat)).bind fun t163 => (if t163 = true then (some false) else (if 1 + ((⟨#[46, 97, 98]⟩ : ByteArray).extract 0 ((ji3) : Int).toNat).size ≤ 9223372036854775807 then ((glob_Match.f k (⟨#[120, 42]⟩ : ByteArray) ((⟨#[120]⟩ : ByteArray) ++ ((⟨#[46, 97, 98]⟩ : ByteArray).extract 0 ((ji3) : Int).toNat))).bind fun t164 => (if t164 = true then ((glob_Match.f k ((⟨#[46, 97, 98]⟩ : ByteArray).extract 0 ((ji3) : Int).toNat) ((⟨#[46, 97, 98]⟩ : ByteArray).extract 0 ((ji3) : Int).toNat)).bind fun t165 => (if t165 = true then ((wainwrightlaw03_awake.f k).bind fun t166 => (some t166)) else (some false))) else (some false))) else (none)))))) else (some false))) else (some false)))) = some r := H
      have A6 := Aside0.mk A60
      clear A60
      by_cases c7 : t159 = true
      · subst c7
        have H1 : (some false) = some r := by rw [if_pos rfl] at H; exact H
        clear H
        have H := H1
        clear H1
        exact absurd ((Option.some.inj H).trans hr_.out) (by decide)
      · replace c7 := Bool.eq_false_iff.mpr c7
        subst c7
        have H1 : ((glob_Match.f k (⟨#[46, 42]⟩ : ByteArray) ((⟨#[46, 97, 98]⟩ : ByteArray).extract 0 ((ji3) : Int).toNat)).bind fun t160 => (if t160 = true then ((glob_Match.f k (⟨#[92, 46, 42]⟩ : ByteArray) ((⟨#[46, 97, 98]⟩ : ByteArray).extract 0 ((ji3) : Int).toNat)).bind fun t161 => (if t161 = true then ((glob_Match.f k (⟨#[91, 46, 93, 42]⟩ : ByteArray) ((⟨#[46, 97, 98]⟩ : ByteArray).extract 0 ((ji3) : Int).toNat)).bind fun t162 => (if t162 = true then (some false) else ((glob_Match.f k (⟨#[63, 42]⟩ : ByteArray) ((⟨#[46, 97, 98]⟩ : ByteArray).extract 0 ((ji3) : Int).toNat)).bind fun t163 => (if t163 = true then (some false) else (if 1 + ((⟨#[46, 97, 98]⟩ : ByteArray).extract 0 ((ji3) : Int).toNat).size ≤ 9223372036854775807 then ((glob_Match.f k (⟨#[120, 42]⟩ : ByteArray) ((⟨#[120]⟩ : ByteArray) ++ ((⟨#[46, 97, 98]⟩ : ByteArray).extract 0 ((ji3) : Int).toNat))).bind fun t164 => (if t164 = true then ((glob_Match.f k ((⟨#[46, 97, 98]⟩ : ByteArray).extract 0 ((ji3) : Int).toNat) ((⟨#[46, 97, 98]⟩ : ByteArray).extract 0 ((ji3) : Int).toNat)).bind fun t165 => (if t165 = true then ((wainwrightlaw03_awake.f k).bind fun t166 => (some t166)) else (some false))) else (some false))) else (none)))))) else (some false))) else (some false))) = some r := by rw [if_neg (show ¬ (false = true) by decide)] at H; exact H
        clear H
        have H := H1
        clear H1
        replace H := Option.bind_eq_some_iff.mp H
        obtain ⟨t160, A80, H⟩ := H
        replace H : (if t160 = true then ((glob_Match.f k (⟨#[92, 46, 42]⟩ : ByteArray) ((⟨#[46, 97, 98]⟩ : ByteArray).extract 0 ((ji3) : Int).toNat)).bind fun t161 => (if t161 = true then ((glob_Match.f k (⟨#[91, 46, 93, 42]⟩ : ByteArray) ((⟨#[46, 97, 98]⟩ : ByteArray).extract 0 ((ji3) : Int).toNat)).bind fun t162 => (if t162 = true then (some false) else ((glob_Match.f k (⟨#[63, 42]⟩ : ByteArray) ((⟨#[46, 97, 98]⟩ : ByteArray).extract 0 ((ji3) : Int).toNat)).bind fun t163 => (if t163 = true then (some false) else (if 1 + ((⟨#[46, 97, 98]⟩ : ByteArray).extract 0 ((ji3) : Int).toNat).size ≤ 9223372036854775807 then ((glob_Match.f k (⟨#[120, 42]⟩ : ByteArray) ((⟨#[120]⟩ : ByteArray) ++ ((⟨#[46, 97, 98]⟩ : ByteArray).extract 0 ((ji3) : Int).toNat))).bind fun t164 => (if t164 = true then ((glob_Match.f k ((⟨#[46, 97, 98]⟩ : ByteArray).extract 0 ((ji3) : Int).toNat) ((⟨#[46, 97, 98]⟩ : ByteArray).extract 0 ((ji3) : Int).toNat)).bind fun t165 => (if t165 = true then ((wainwrightlaw03_awake.f k).bind fun t166 => (some t166)) else (some false))) else (some false))) else (none)))))) else (some false))) else (some false)) = some r := H
        have A8 := Aside0.mk A80
        clear A80
        by_cases c9 : t160 = true
        · subst c9
          have H1 : ((glob_Match.f k (⟨#[92, 46, 42]⟩ : ByteArray) ((⟨#[46, 97, 98]⟩ : ByteArray).extract 0 ((ji3) : Int).toNat)).bind fun t161 => (if t161 = true then ((glob_Match.f k (⟨#[91, 46, 93, 42]⟩ : ByteArray) ((⟨#[46, 97, 98]⟩ : ByteArray).extract 0 ((ji3) : Int).toNat)).bind fun t162 => (if t162 = true then (some false) else ((glob_Match.f k (⟨#[63, 42]⟩ : ByteArray) ((⟨#[46, 97, 98]⟩ : ByteArray).extract 0 ((ji3) : Int).toNat)).bind fun t163 => (if t163 = true then (some false) else (if 1 + ((⟨#[46, 97, 98]⟩ : ByteArray).extract 0 ((ji3) : Int).toNat).size ≤ 9223372036854775807 then ((glob_Match.f k (⟨#[120, 42]⟩ : ByteArray) ((⟨#[120]⟩ : ByteArray) ++ ((⟨#[46, 97, 98]⟩ : ByteArray).extract 0 ((ji3) : Int).toNat))).bind fun t164 => (if t164 = true then ((glob_Match.f k ((⟨#[46, 97, 98]⟩ : ByteArray).extract 0 ((ji3) : Int).toNat) ((⟨#[46, 97, 98]⟩ : ByteArray).extract 0 ((ji3) : Int).toNat)).bind fun t165 => (if t165 = true then ((wainwrightlaw03_awake.f k).bind fun t166 => (some t166)) else (some false))) else (some false))) else (none)))))) else (some false))) = some r := by rw [if_pos rfl] at H; exact H
          clear H
          have H := H1
          clear H1
          replace H := Option.bind_eq_some_iff.mp H
          obtain ⟨t161, A100, H⟩ := H
          replace H : (if t161 = true then ((glob_Match.f k (⟨#[91, 46, 93, 42]⟩ : ByteArray) ((⟨#[46, 97, 98]⟩ : ByteArray).extract 0 ((ji3) : Int).toNat)).bind fun t162 => (if t162 = true then (some false) else ((glob_Match.f k (⟨#[63, 42]⟩ : ByteArray) ((⟨#[46, 97, 98]⟩ : ByteArray).extract 0 ((ji3) : Int).toNat)).bind fun t163 => (if t163 = true then (some false) else (if 1 + ((⟨#[46, 97, 98]⟩ : ByteArray).extract 0 ((ji3) : Int).toNat).size ≤ 9223372036854775807 then ((glob_Match.f k (⟨#[120, 42]⟩ : ByteArray) ((⟨#[120]⟩ : ByteArray) ++ ((⟨#[46, 97, 98]⟩ : ByteArray).extract 0 ((ji3) : Int).toNat))).bind fun t164 => (if t164 = true then ((glob_Match.f k ((⟨#[46, 97, 98]⟩ : ByteArray).extract 0 ((ji3) : Int).toNat) ((⟨#[46, 97, 98]⟩ : ByteArray).extract 0 ((ji3) : Int).toNat)).bind fun t165 => (if t165 = true then ((wainwrightlaw03_awake.f k).bind fun t166 => (some t166)) else (some false))) else (some false))) else (none)))))) else (some false)) = some r := H
          have A10 := Aside0.mk A100
          clear A100
          by_cases c11 : t161 = true
          · subst c11
            have H1 : ((glob_Match.f k (⟨#[91, 46, 93, 42]⟩ : ByteArray) ((⟨#[46, 97, 98]⟩ : ByteArray).extract 0 ((ji3) : Int).toNat)).bind fun t162 => (if t162 = true then (some false) else ((glob_Match.f k (⟨#[63, 42]⟩ : ByteArray) ((⟨#[46, 97, 98]⟩ : ByteArray).extract 0 ((ji3) : Int).toNat)).bind fun t163 => (if t163 = true then (some false) else (if 1 + ((⟨#[46, 97, 98]⟩ : ByteArray).extract 0 ((ji3) : Int).toNat).size ≤ 9223372036854775807 then ((glob_Match.f k (⟨#[120, 42]⟩ : ByteArray) ((⟨#[120]⟩ : ByteArray) ++ ((⟨#[46, 97, 98]⟩ : ByteArray).extract 0 ((ji3) : Int).toNat))).bind fun t164 => (if t164 = true then ((glob_Match.f k ((⟨#[46, 97, 98]⟩ : ByteArray).extract 0 ((ji3) : Int).toNat) ((⟨#[46, 97, 98]⟩ : ByteArray).extract 0 ((ji3) : Int).toNat)).bind fun t165 => (if t165 = true then ((wainwrightlaw03_awake.f k).bind fun t166 => (some t166)) else (some false))) else (some false))) else (none)))))) = some r := by rw [if_pos rfl] at H; exact H
            clear H
            have H := H1
            clear H1
            replace H := Option.bind_eq_some_iff.mp H
            obtain ⟨t162, A120, H⟩ := H
            replace H : (if t162 = true then (some false) else ((glob_Match.f k (⟨#[63, 42]⟩ : ByteArray) ((⟨#[46, 97, 98]⟩ : ByteArray).extract 0 ((ji3) : Int).toNat)).bind fun t163 => (if t163 = true then (some false) else (if 1 + ((⟨#[46, 97, 98]⟩ : ByteArray).extract 0 ((ji3) : Int).toNat).size ≤ 9223372036854775807 then ((glob_Match.f k (⟨#[120, 42]⟩ : ByteArray) ((⟨#[120]⟩ : ByteArray) ++ ((⟨#[46, 97, 98]⟩ : ByteArray).extract 0 ((ji3) : Int).toNat))).bind fun t164 => (if t164 = true then ((glob_Match.f k ((⟨#[46, 97, 98]⟩ : ByteArray).extract 0 ((ji3) : Int).toNat) ((⟨#[46, 97, 98]⟩ : ByteArray).extract 0 ((ji3) : Int).toNat)).bind fun t165 => (if t165 = true then ((wainwrightlaw03_awake.f k).bind fun t166 => (some t166)) else (some false))) else (some false))) else (none))))) = some r := H
            have A12 := Aside0.mk A120
            clear A120
            by_cases c13 : t162 = true
            · subst c13
              have H1 : (some false) = some r := by rw [if_pos rfl] at H; exact H
              clear H
              have H := H1
              clear H1
              exact absurd ((Option.some.inj H).trans hr_.out) (by decide)
            · replace c13 := Bool.eq_false_iff.mpr c13
              subst c13
              have H1 : ((glob_Match.f k (⟨#[63, 42]⟩ : ByteArray) ((⟨#[46, 97, 98]⟩ : ByteArray).extract 0 ((ji3) : Int).toNat)).bind fun t163 => (if t163 = true then (some false) else (if 1 + ((⟨#[46, 97, 98]⟩ : ByteArray).extract 0 ((ji3) : Int).toNat).size ≤ 9223372036854775807 then ((glob_Match.f k (⟨#[120, 42]⟩ : ByteArray) ((⟨#[120]⟩ : ByteArray) ++ ((⟨#[46, 97, 98]⟩ : ByteArray).extract 0 ((ji3) : Int).toNat))).bind fun t164 => (if t164 = true then ((glob_Match.f k ((⟨#[46, 97, 98]⟩ : ByteArray).extract 0 ((ji3) : Int).toNat) ((⟨#[46, 97, 98]⟩ : ByteArray).extract 0 ((ji3) : Int).toNat)).bind fun t165 => (if t165 = true then ((wainwrightlaw03_awake.f k).bind fun t166 => (some t166)) else (some false))) else (some false))) else (none)))) = some r := by rw [if_neg (show ¬ (false = true) by decide)] at H; exact H
              clear H
              have H := H1
              clear H1
              replace H := Option.bind_eq_some_iff.mp H
              obtain ⟨t163, A140, H⟩ := H
              replace H : (if t163 = true then (some false) else (if 1 + ((⟨#[46, 97, 98]⟩ : ByteArray).extract 0 ((ji3) : Int).toNat).size ≤ 9223372036854775807 then ((glob_Match.f k (⟨#[120, 42]⟩ : ByteArray) ((⟨#[120]⟩ : ByteArray) ++ ((⟨#[46, 97, 98]⟩ : ByteArray).extract 0 ((ji3) : Int).toNat))).bind fun t164 => (if t164 = true then ((glob_Match.f k ((⟨#[46, 97, 98]⟩ : ByteArray).extract 0 ((ji3) : Int).toNat) ((⟨#[46, 97, 98]⟩ : ByteArray).extract 0 ((ji3) : Int).toNat)).bind fun t165 => (if t165 = true then ((wainwrightlaw03_awake.f k).bind fun t166 => (some t166)) else (some false))) else (some false))) else (none))) = some r := H
              have A14 := Aside0.mk A140
              clear A140
              by_cases c15 : t163 = true
              · subst c15
                have H1 : (some false) = some r := by rw [if_pos rfl] at H; exact H
                clear H
                have H := H1
                clear H1
                exact absurd ((Option.some.inj H).trans hr_.out) (by decide)
              · replace c15 := Bool.eq_false_iff.mpr c15
                subst c15
                have H1 : (if 1 + ((⟨#[46, 97, 98]⟩ : ByteArray).extract 0 ((ji3) : Int).toNat).size ≤ 9223372036854775807 then ((glob_Match.f k (⟨#[120, 42]⟩ : ByteArray) ((⟨#[120]⟩ : ByteArray) ++ ((⟨#[46, 97, 98]⟩ : ByteArray).extract 0 ((ji3) : Int).toNat))).bind fun t164 => (if t164 = true then ((glob_Match.f k ((⟨#[46, 97, 98]⟩ : ByteArray).extract 0 ((ji3) : Int).toNat) ((⟨#[46, 97, 98]⟩ : ByteArray).extract 0 ((ji3) : Int).toNat)).bind fun t165 => (if t165 = true then ((wainwrightlaw03_awake.f k).bind fun t166 => (some t166)) else (some false))) else (some false))) else (none)) = some r := by rw [if_neg (show ¬ (false = true) by decide)] at H; exact H
                clear H
                have H := H1
                clear H1
                by_cases c16 : 1 + ((⟨#[46, 97, 98]⟩ : ByteArray).extract 0 ((ji3) : Int).toNat).size ≤ 9223372036854775807
                · rw [if_pos c16] at H
                  have c16b0 := eq_true c16
                  have c16b1 : decide (1 + ((⟨#[46, 97, 98]⟩ : ByteArray).extract 0 ((ji3) : Int).toNat).size ≤ 9223372036854775807) = true := decide_eq_true c16
                  try have c16b2 : (9223372036854775807 < 1 + ((⟨#[46, 97, 98]⟩ : ByteArray).extract 0 ((ji3) : Int).toNat).size) = False := eq_false (Nat.not_lt.2 c16)
                  (try have c16b3 : (9223372036854775807 < 1 + ji3.toNat) = False := eq_false (by have e0_ : ji3 ≤ 3 := of_decide_eq_true (by assumption); have l0_ : (⟨#[46, 97, 98]⟩ : ByteArray).size = 3 := rfl; have c_ := c16; (try simp only [ByteArray.size_append, ByteArray.size_extract] at c_); omega))
                  replace H := Option.bind_eq_some_iff.mp H
                  obtain ⟨t164, A170, H⟩ := H
                  replace H : (if t164 = true then ((glob_Match.f k ((⟨#[46, 97, 98]⟩ : ByteArray).extract 0 ((ji3) : Int).toNat) ((⟨#[46, 97, 98]⟩ : ByteArray).extract 0 ((ji3) : Int).toNat)).bind fun t165 => (if t165 = true then ((wainwrightlaw03_awake.f k).bind fun t166 => (some t166)) else (some false))) else (some false)) = some r := H
                  have A17 := Aside0.mk A170
                  clear A170
                  by_cases c18 : t164 = true
                  · subst c18
                    have H1 : ((glob_Match.f k ((⟨#[46, 97, 98]⟩ : ByteArray).extract 0 ((ji3) : Int).toNat) ((⟨#[46, 97, 98]⟩ : ByteArray).extract 0 ((ji3) : Int).toNat)).bind fun t165 => (if t165 = true then ((wainwrightlaw03_awake.f k).bind fun t166 => (some t166)) else (some false))) = some r := by rw [if_pos rfl] at H; exact H
                    clear H
                    have H := H1
                    clear H1
                    replace H := Option.bind_eq_some_iff.mp H
                    obtain ⟨t165, A190, H⟩ := H
                    replace H : (if t165 = true then ((wainwrightlaw03_awake.f k).bind fun t166 => (some t166)) else (some false)) = some r := H
                    have A19 := Aside0.mk A190
                    clear A190
                    by_cases c20 : t165 = true
                    · subst c20
                      have H1 : ((wainwrightlaw03_awake.f k).bind fun t166 => (some t166)) = some r := by rw [if_pos rfl] at H; exact H
                      clear H
                      have H := H1
                      clear H1
                      replace H := Option.bind_eq_some_iff.mp H
                      obtain ⟨t166, A210, H⟩ := H
                      replace H : (some t166) = some r := H
                      have A21 := Aside0.mk A210
                      clear A210
                      obtain rfl := Option.some.inj H
                      go_enter Try.func6, Try.ntmps6
                      go_wp2_with (first | ((with_reducible refine gate_callee (f := 7) rfl ?_); refine goesL_ (some 5) rfl rfl Try.func7 (by kernel_rfl) rfl #[.int .i64 a0, .int .i64 3] rfl (by (try simp only [List.map_toArray, List.map_cons, List.map_nil]); first | done | rfl | (simp only [List.length_drop, List.length_take]; rfl)) ?_; (with_reducible refine (wainwrightlaw00_Place.calls a0 3 t158 _ A2.out).mono ?_); rintro e w' ⟨rfl, ⟨nd, rfl⟩⟩; refine ⟨_, rfl, ?_⟩) | ((with_reducible refine gate_callee (f := 9) rfl ?_); refine goesL_ (some 9) rfl rfl Try.func9 (by kernel_rfl) rfl #[.string (⟨#[42]⟩ : ByteArray), .string ((⟨#[46, 97, 98]⟩ : ByteArray).extract 0 ((ji3) : Int).toNat)] rfl (by (try simp only [List.map_toArray, List.map_cons, List.map_nil]); first | done | (simp only [hji3]; rfl) | rfl | (simp only [List.length_drop, List.length_take]; rfl)) ?_; (with_reducible refine (glob_Match.calls k (⟨#[42]⟩ : ByteArray) ((⟨#[46, 97, 98]⟩ : ByteArray).extract 0 ((ji3) : Int).toNat) false _ A6.out).mono ?_); rintro e w22 ⟨rfl, hb⟩; refine ⟨_, rfl, ?_⟩; have n0_ := Aside0.mk (below_step (by repeat (first | (with_reducible first | exact HB.out | apply below_alloc | apply pw_below_drewN | apply below_drew1) | exact HB.out)) hb); clear HB; have HB := n0_; clear n0_; (try clear hb); (try clear hb2); (try clear hk); (try clear hi)) | (go_at_call 9; (with_reducible refine (glob_Match.calls k (⟨#[46, 42]⟩ : ByteArray) ((⟨#[46, 97, 98]⟩ : ByteArray).extract 0 ((ji3) : Int).toNat) true _ A8.out).mono ?_); rintro e w23 ⟨rfl, hb⟩; have n0_ := Aside0.mk (below_step (by repeat (first | (with_reducible first | exact HB.out | apply below_alloc | apply pw_below_drewN | apply below_drew1) | exact HB.out)) hb); clear HB; have HB := n0_; clear n0_; (try clear hb); (try clear hb2); (try clear hk); (try clear hi)) | (go_at_call 9; (with_reducible refine (glob_Match.calls k (⟨#[92, 46, 42]⟩ : ByteArray) ((⟨#[46, 97, 98]⟩ : ByteArray).extract 0 ((ji3) : Int).toNat) true _ A10.out).mono ?_); rintro e w24 ⟨rfl, hb⟩; have n0_ := Aside0.mk (below_step (by repeat (first | (with_reducible first | exact HB.out | apply below_alloc | apply pw_below_drewN | apply below_drew1) | exact HB.out)) hb); clear HB; have HB := n0_; clear n0_; (try clear hb); (try clear hb2); (try clear hk); (try clear hi)) | (go_at_call 9; (with_reducible refine (glob_Match.calls k (⟨#[91, 46, 93, 42]⟩ : ByteArray) ((⟨#[46, 97, 98]⟩ : ByteArray).extract 0 ((ji3) : Int).toNat) false _ A12.out).mono ?_); rintro e w25 ⟨rfl, hb⟩; have n0_ := Aside0.mk (below_step (by repeat (first | (with_reducible first | exact HB.out | apply below_alloc | apply pw_below_drewN | apply below_drew1) | exact HB.out)) hb); clear HB; have HB := n0_; clear n0_; (try clear hb); (try clear hb2); (try clear hk); (try clear hi)) | (go_at_call 9; (with_reducible refine (glob_Match.calls k (⟨#[63, 42]⟩ : ByteArray) ((⟨#[46, 97, 98]⟩ : ByteArray).extract 0 ((ji3) : Int).toNat) false _ A14.out).mono ?_); rintro e w26 ⟨rfl, hb⟩; have n0_ := Aside0.mk (below_step (by repeat (first | (with_reducible first | exact HB.out | apply below_alloc | apply pw_below_drewN | apply below_drew1) | exact HB.out)) hb); clear HB; have HB := n0_; clear n0_; (try clear hb); (try clear hb2); (try clear hk); (try clear hi)) | (go_at_call 9; (with_reducible refine (glob_Match.calls k (⟨#[120, 42]⟩ : ByteArray) ((⟨#[120]⟩ : ByteArray) ++ ((⟨#[46, 97, 98]⟩ : ByteArray).extract 0 ((ji3) : Int).toNat)) true _ A17.out).mono ?_); rintro e w27 ⟨rfl, hb⟩; have n0_ := Aside0.mk (below_step (by repeat (first | (with_reducible first | exact HB.out | apply below_alloc | apply pw_below_drewN | apply below_drew1) | exact HB.out)) hb); clear HB; have HB := n0_; clear n0_; (try clear hb); (try clear hb2); (try clear hk); (try clear hi)) | (go_at_call 9; (with_reducible refine (glob_Match.calls k ((⟨#[46, 97, 98]⟩ : ByteArray).extract 0 ((ji3) : Int).toNat) ((⟨#[46, 97, 98]⟩ : ByteArray).extract 0 ((ji3) : Int).toNat) true _ A19.out).mono ?_); rintro e w28 ⟨rfl, hb⟩; have n0_ := Aside0.mk (below_step (by repeat (first | (with_reducible first | exact HB.out | apply below_alloc | apply pw_below_drewN | apply below_drew1) | exact HB.out)) hb); clear HB; have HB := n0_; clear n0_; (try clear hb); (try clear hb2); (try clear hk); (try clear hi)) | (go_at_call 8; (with_reducible refine (wainwrightlaw03_awake.calls k  t166 _ A21.out).mono ?_); rintro e w29 ⟨rfl, hb⟩; have n0_ := Aside0.mk (below_step (by repeat (first | (with_reducible first | exact HB.out | apply below_alloc | apply pw_below_drewN | apply below_drew1) | exact HB.out)) hb); clear HB; have HB := n0_; clear n0_; (try clear hb); (try clear hb2); (try clear hk); (try clear hi)))
                      go_ret
                      exact ⟨by first | rfl | (simp [errW_none, errW_some] <;> rfl) | (simp only [← hji3]; first | rfl | (simp [errW_none, errW_some] <;> rfl)) | (simp [*, errW_none, errW_some] <;> rfl), by repeat (first | (with_reducible first | exact HB.out | apply below_alloc | apply pw_below_drewN | apply below_drew1) | exact HB.out)⟩
                    · replace c20 := Bool.eq_false_iff.mpr c20
                      subst c20
                      have H1 : (some false) = some r := by rw [if_neg (show ¬ (false = true) by decide)] at H; exact H
                      clear H
                      have H := H1
                      clear H1
                      exact absurd ((Option.some.inj H).trans hr_.out) (by decide)
                  · replace c18 := Bool.eq_false_iff.mpr c18
                    subst c18
                    have H1 : (some false) = some r := by rw [if_neg (show ¬ (false = true) by decide)] at H; exact H
                    clear H
                    have H := H1
                    clear H1
                    exact absurd ((Option.some.inj H).trans hr_.out) (by decide)
                · rw [if_neg c16] at H
                  exact absurd H (by simp)
          · replace c11 := Bool.eq_false_iff.mpr c11
            subst c11
            have H1 : (some false) = some r := by rw [if_neg (show ¬ (false = true) by decide)] at H; exact H
            clear H
            have H := H1
            clear H1
            exact absurd ((Option.some.inj H).trans hr_.out) (by decide)
        · replace c9 := Bool.eq_false_iff.mpr c9
          subst c9
          have H1 : (some false) = some r := by rw [if_neg (show ¬ (false = true) by decide)] at H; exact H
          clear H
          have H := H1
          clear H1
          exact absurd ((Option.some.inj H).trans hr_.out) (by decide)
    · rw [if_neg c5] at H
      exact absurd H (by simp)
  · rw [if_neg c4] at H
    exact absurd H (by simp)

/-- THE ONE PURE STATEMENT of wainwrightlaw03_GlobDots: yours. -/
def wainwrightlaw03_GlobDots.Pure : Prop := ∀ (a0 : Int), (Lit.int .i64 a0).wf = true → ∃ k, wainwrightlaw03_GlobDots.f k a0 = some true
theorem wainwrightlaw03_GlobDots.walk (P : wainwrightlaw03_GlobDots.Pure) (a0 : Int) (w : World) (w0 : (Lit.int .i64 a0).wf = true) :
    Calls Try.prog 6 #[.int .i64 a0] w fun e w' => e = .returned (.bool true) ∧ Below w.heap.size w w' := by
  obtain ⟨k, h⟩ := P a0 w0
  refine (wainwrightlaw03_GlobDots.calls k a0 true (show Hid (true = true) from rfl) w h).mono ?_
  rintro e w' ⟨rfl, hd⟩
  exact ⟨rfl, hd⟩

end Go.Proofs.Ytpoekljclapbfaa.P
