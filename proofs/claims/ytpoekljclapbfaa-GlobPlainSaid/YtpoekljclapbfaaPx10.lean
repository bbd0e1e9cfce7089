-- Written by a program of this session (wip/tools) out of the translation, over the kit's print. Not trusted: Lean checks it.
import Derived.Test.YtpoekljclapbfaaPx0
import Derived.Test.YtpoekljclapbfaaPx6
import Derived.Test.YtpoekljclapbfaaPx7
import Derived.Test.YtpoekljclapbfaaPx8
import Derived.Test.YtpoekljclapbfaaPx9
import Derived.Test.YtpoekljclapbfaaGlobPlain
namespace Go.Proofs.Ytpoekljclapbfaa.G
end Go.Proofs.Ytpoekljclapbfaa.G
namespace Go.Proofs.Ytpoekljclapbfaa.P0
end Go.Proofs.Ytpoekljclapbfaa.P0
namespace Go.Proofs.Ytpoekljclapbfaa.P
open Go.Proofs.Ytpoekljclapbfaa.G Go.Proofs.Ytpoekljclapbfaa.P0
open Go.RowKit Go.Proofs.YtpoekljclapbfaaW.PrintWords Go.Proofs.YtpoekljclapbfaaW.PrintLast Go.Proofs.YtpoekljclapbfaaW.PrintMore
attribute [local go_sem] max2_int min2_int max_two min_two max_three min_three max_four min_four   -- for this text's walks alone
set_option linter.unusedVariables false
set_option linter.unusedSimpArgs false

/-! ### wainwrightlaw03_GlobPlain: function 4 -/
def wainwrightlaw03_GlobPlain.f (k : Nat) (l0 : List Int) (l1 : List Int) : Option (Bool) := (wainwrightlaw03_GlobPlain_1.f k l0 (⟨#[92, 42]⟩ : ByteArray)).bind fun t132 => ((wainwrightlaw03_GlobPlain_1.f k l1 (⟨#[42]⟩ : ByteArray)).bind fun t133 => ((wainwrightlaw03_GlobPlain_1.f k l0 (⟨#[42]⟩ : ByteArray)).bind fun t134 => ((glob_Magic.f k t132).bind fun t135 => (if t135 = true then (some false) else ((glob_Plain.f t132).bind fun t136 => (if t136.toList = t134.toList then ((glob_Match.f k t132 t134).bind fun t137 => (if t137 = true then ((glob_Match.f k t132 t133).bind fun t138 => (if (t138 == (t133.toList == t134.toList)) = true then ((glob_Match.f k (⟨#[42]⟩ : ByteArray) t133).bind fun t139 => (if t139 = true then (if t134.size + 1 ≤ 9223372036854775807 then (if t134.size + t133.size ≤ 9223372036854775807 then ((glob_Match.f k (t134 ++ (⟨#[42]⟩ : ByteArray)) (t134 ++ t133)).bind fun t140 => (if t140 = true then ((wainwrightlaw03_awake.f k).bind fun t141 => (some t141)) else (some false))) else (none)) else (none)) else (some false))) else (some false))) else (some false))) else (some false)))))))
theorem wainwrightlaw03_GlobPlain.mono : ∀ a0 a1 k, LeO (wainwrightlaw03_GlobPlain.f k a0 a1) (wainwrightlaw03_GlobPlain.f (k + 1) a0 a1) := by
  intro a0 a1 k
  unfold wainwrightlaw03_GlobPlain.f
  repeat' first
      | (with_reducible exact glob_Magic.mono _ _)
      | (with_reducible exact glob_Match.mono _ _ _)
      | (with_reducible exact wainwrightlaw03_GlobPlain_1.mono _ _ _)
      | (with_reducible exact wainwrightlaw03_awake.mono _)
      | (with_reducible exact LeO.refl _)
      | (with_reducible exact LeO.none _)
      | (with_reducible refine LeO.ite ?_ ?_)
      | (with_reducible refine LeO.bind ?_ (fun _ => ?_))
      | exact glob_Magic.mono _ _
      | exact glob_Match.mono _ _ _
      | exact wainwrightlaw03_GlobPlain_1.mono _ _ _
      | exact wainwrightlaw03_awake.mono _
      | exact LeO.none _
      | refine LeO.ite ?_ ?_
      | refine LeO.bind ?_ (fun _ => ?_)
set_option maxHeartbeats 8000000 in
set_option maxRecDepth 100000 in
theorem wainwrightlaw03_GlobPlain.calls (k : Nat) (A0 : Option Addr) (c0 : Nat) (l0 : List Int) (A1 : Option Addr) (c1 : Nat) (l1 : List Int) (r : Bool) (hr_ : Hid (r = true)) (w : World) (hr0 : Kd.C (Kd.int .i64) w A0 l0.length l0) (hc0 : l0.length ≤ c0) (hr1 : Kd.C (Kd.int .i64) w A1 l1.length l1) (hc1 : l1.length ≤ c1) (h : wainwrightlaw03_GlobPlain.f k l0 l1 = some r) :
    Calls Try.prog 4 #[.slice A0 l0.length c0, .slice A1 l1.length c1] w fun e w' => e = .returned (.bool r) ∧ Below w.heap.size w w' := by
  have HR0 := Aside0.mk hr0
  have HC0 := Aside0.mk hc0
  clear hr0 hc0
  have HR1 := Aside0.mk hr1
  have HC1 := Aside0.mk hc1
  clear hr1 hc1
  have HB := Aside0.mk (Below.refl w.heap.size w)
  have H : ((wainwrightlaw03_GlobPlain_1.f k l0 (⟨#[92, 42]⟩ : ByteArray)).bind fun t132 => ((wainwrightlaw03_GlobPlain_1.f k l1 (⟨#[42]⟩ : ByteArray)).bind fun t133 => ((wainwrightlaw03_GlobPlain_1.f k l0 (⟨#[42]⟩ : ByteArray)).bind fun t134 => ((glob_Magic.f k t132).bind fun t135 => (if t135 = true then (some false) else ((glob_Plain.f t132).bind fun t136 => (if t136.toList = t134.toList then ((glob_Match.f k t132 t134).bind fun t137 => (if t137 = true then ((glob_Match.f k t132 t133).bind fun t138 => (if (t138 == (t133.toList == t134.toList)) = true then ((glob_Match.f k (⟨#[42]⟩ : ByteArray) t133).bind fun t139 => (if t139 = true then (if t134.size + 1 ≤ 9223372036854775807 then (if t134.size + t133.size ≤ 9223372036854775807 then ((glob_Match.f k (t134 ++ (⟨#[42]⟩ : ByteArray)) (t134 ++ t133)).bind fun t140 => (if t140 = true then ((wainwrightlaw03_awake.f k).bind fun t141 => (some t141)) else (some false))) else (none)) else (none)) else (some false))) else (some false))) else (some false))) else (some false)))))))) = some r := h
  clear h
  replace H := Option.bind_eq_some_iff.mp H
  obtain ⟨t132, A30, H⟩ := H
  replace H : ((wainwrightlaw03_GlobPlain_1.f k l1 (⟨#[42]⟩ : ByteArray)).bind fun t133 => ((wainwrightlaw03_GlobPlain_1.f k l0 (⟨#[42]⟩ : ByteArray)).bind fun t134 => ((glob_Magic.f k t132).bind fun t135 => (if t135 = true then (some false) else ((glob_Plain.f t132).bind fun t136 => (if t136.toList = t134.toList then ((glob_Match.f k t132 t134).bind fun t137 => (if t137 = true then ((glob_Match.f k t132 t133).bind fun t138 => (if (t138 == (t133.toList == t134.toList)) = true then ((glob_Match.f k (⟨#[42]⟩ : ByteArray) t133).bind fun t139 => (if t139 = true then (if t134.size + 1 ≤ 9223372036854775807 then (if t134.size + t133.size ≤ 9223372036854775807 then ((glob_Match.f k (t134 ++ (⟨#[42]⟩ : ByteArray)) (t134 ++ t133)).bind fun t140 => (if t140 = true then ((wainwrightlaw03_awake.f k).bind fun t141 => (some t141)) else (some false))) else (none)) else (none)) else (some false))) else (some false))) else (some false))) else (some false))))))) = some r := H
  have A3 := Aside0.mk A30
  clear A30
  replace H := Option.bind_eq_some_iff.mp H
  obtain ⟨t133, A40, H⟩ := H
  replace H : ((wainwrightlaw03_GlobPlain_1.f k l0 (⟨#[42]⟩ : ByteArray)).bind fun t134 => ((glob_Magic.f k t132).bind fun t135 => (if t135 = true then (some false) else ((glob_Plain.f t132).bind fun t136 => (if t136.toList = t134.toList then ((glob_Match.f k t132 t134).bind fun t137 => (if t137 = true then ((glob_Match.f k t132 t133).bind fun t138 => (if (t138 == (t133.toList == t134.toList)) = true then ((glob_Match.f k (⟨#[42]⟩ : ByteArray) t133).bind fun t139 => (if t139 = true then (if t134.size + 1 ≤ 9223372036854775807 then (if t134.size + t133.size ≤ 9223372036854775807 then ((glob_Match.f k (t134 ++ (⟨#[42]⟩ : ByteArray)) (t134 ++ t133)).bind fun t140 => (if t140 = true then ((wainwrightlaw03_awake.f k).bind fun t141 => (some t141)) else (some false))) else (none)) else (none)) else (some false))) else (some false))) else (some false))) else (some false)))))) = some r := H
  have A4 := Aside0.mk A40
  clear A40
  replace H := Option.bind_eq_some_iff.mp H
  obtain ⟨t134, A50, H⟩ := H
  replace H : ((glob_Magic.f k t132).bind fun t135 => (if t135 = true then (some false) else ((glob_Plain.f t132).bind fun t136 => (if t136.toList = t134.toList then ((glob_Match.f k t132 t134).bind fun t137 => (if t137 = true then ((glob_Match.f k t132 t133).bind fun t138 => (if (t138 == (t133.toList == t134.toList)) = true then ((glob_Match.f k (⟨#[42]⟩ : ByteArray) t133).bind fun t139 => (if t139 = true then (if t134.size + 1 ≤ 9223372036854775807 then (if t134.size + t133.size ≤ 9223372036854775807 then ((glob_Match.f k (t134 ++ (⟨#[42]⟩ : ByteArray)) (t134 ++ t133)).bind fun t140 => (if t140 = true then ((wainwrightlaw03_awake.f k).bind fun t141 => (some t141)) else (some false))) else (none)) else (none)) else (some false))) else (some false))) else (some false))) else (some false))))) = some r := H
  have A5 := Aside0.mk A50
  clear A50
  replace H := Option.bind_eq_some_iff.mp H
  obtain ⟨t135, A60, H⟩ := H
  replace H : (if t135 = true then (some false) else ((glob_Plain.f t132).bind fun t136 => (if t136.toList = t134.toList then ((glob_Match.f k t132 t134).bind fun t137 => (if t137 = true then ((glob_Match.f k t132 t133).bind fun t138 => (if (t138 == (t133.toList == t134.toList)) = true then ((glob_Match.f k (⟨#[42]⟩ : ByteArray) t133).bind fun t139 => (if t139 = true then (if t134.size + 1 ≤ 9223372036854775807 then (if t134.size + t133.size ≤ 9223372036854775807 then ((glob_Match.f k (t134 ++ (⟨#[42]⟩ : ByteArray)) (t134 ++ t133)).bind fun t140 => (if t140 = true then ((wainwrightlaw03_awake.f k).bind fun t141 => (some t141)) else (some false))) else (none)) else (none)) else (some false))) else (some false))) else (some false))) else (some false)))) = some r := H
  have A6 := Aside0.mk A60
  clear A60
  by_cases c7 : t135 = true
  · subst c7
    have H1 : (some false) = some r := by rw [if_pos rfl] at H; exact H
    clear H
    have H := H1
    clear H1
    exact absurd ((Option.some.inj H).trans hr_.out) (by decide)
  · replace c7 := Bool.eq_false_iff.mpr c7
    subst c7
    have H1 : ((glob_Plain.f t132).bind fun t136 => (if t136.toList = t134.toList then ((glob_Match.f k t132 t134).bind fun t137 => (if t137 = true then ((glob_Match.f k t132 t133).bind fun t138 => (if (t138 == (t133.toList == t134.toList)) = true then ((glob_Match.f k (⟨#[42]⟩ : ByteArray) t133).bind fun t139 => (if t139 = true then (if t134.size + 1 ≤ 9223372036854775807 then (if t134.size + t133.size ≤ 9223372036854775807 then ((glob_Match.f k (t134 ++ (⟨#[42]⟩ : ByteArray)) (t134 ++ t133)).bind fun t140 => (if t140 = true then ((wainwrightlaw03_awake.f k).bind fun t141 => (some t141)) else (some false))) else (none)) else (none)) else (some false))) else (some false))) else (some false))) else (some false))) = some r := by rw [if_neg (show ¬ (false = true) by decide)] at H; exact H
    clear H
    have H := H1
    clear H1
    replace H := Option.bind_eq_some_iff.mp H
    obtain ⟨t136, A80, H⟩ := H
    replace H : (if t136.toList = t134.toList then ((glob_Match.f k t132 t134).bind fun t137 => (if t137 = true then ((glob_Match.f k t132 t133).bind fun t138 => (if (t138 == (t133.toList == t134.toList)) = true then ((glob_Match.f k (⟨#[42]⟩ : ByteArray) t133).bind fun t139 => (if t139 = true then (if t134.size + 1 ≤ 9223372036854775807 then (if t134.size + t133.size ≤ 9223372036854775807 then ((glob_Match.f k (t134 ++ (⟨#[42]⟩ : ByteArray)) (t134 ++ t133)).bind fun t140 => (if t140 = true then ((wainwrightlaw03_awake.f k).bind fun t141 => (some t141)) else (some false))) else (none)) else (none)) else (some false))) else (some false))) else (some false))) else (some false)) = some r := H
    have A8 := Aside0.mk A80
    clear A80
    by_cases c9 : t136.toList = t134.toList
    · rw [if_pos c9] at H
      have c9b0 : (t136.toList == t134.toList) = true := beq_iff_eq.mpr c9
      have c9b1 : (t136.toList != t134.toList) = false := bne_eq_false_iff_eq.mpr c9
      clear c9
      replace H := Option.bind_eq_some_iff.mp H
      obtain ⟨t137, A100, H⟩ := H
      replace H : (if t137 = true then ((glob_Match.f k t132 t133).bind fun t138 => (if (t138 == (t133.toList == t134.toList)) = true then ((glob_Match.f k (⟨#[42]⟩ : ByteArray) t133).bind fun t139 => (if t139 = true then (if t134.size + 1 ≤ 9223372036854775807 then (if t134.size + t133.size ≤ 9223372036854775807 then ((glob_Match.f k (t134 ++ (⟨#[42]⟩ : ByteArray)) (t134 ++ t133)).bind fun t140 => (if t140 = true then ((wainwrightlaw03_awake.f k).bind fun t141 => (some t141)) else (some false))) else (none)) else (none)) else (some false))) else (some false))) else (some false)) = some r := H
      have A10 := Aside0.mk A100
      clear A100
      by_cases c11 : t137 = true
      · subst c11
        have H1 : ((glob_Match.f k t132 t133).bind fun t138 => (if (t138 == (t133.toList == t134.toList)) = true then ((glob_Match.f k (⟨#[42]⟩ : ByteArray) t133).bind fun t139 => (if t139 = true then (if t134.size + 1 ≤ 9223372036854775807 then (if t134.size + t133.size ≤ 9223372036854775807 then ((glob_Match.f k (t134 ++ (⟨#[42]⟩ : ByteArray)) (t134 ++ t133)).bind fun t140 => (if t140 = true then ((wainwrightlaw03_awake.f k).bind fun t141 => (some t141)) else (some false))) else (none)) else (none)) else (some false))) else (some false))) = some r := by rw [if_pos rfl] at H; exact H
        clear H
        have H := H1
        clear H1
        replace H := Option.bind_eq_some_iff.mp H
        obtain ⟨t138, A120, H⟩ := H
        replace H : (if (t138 == (t133.toList == t134.toList)) = true then ((glob_Match.f k (⟨#[42]⟩ : ByteArray) t133).bind fun t139 => (if t139 = true then (if t134.size + 1 ≤ 9223372036854775807 then (if t134.size + t133.size ≤ 9223372036854775807 then ((glob_Match.f k (t134 ++ (⟨#[42]⟩ : ByteArray)) (t134 ++ t133)).bind fun t140 => (if t140 = true then ((wainwrightlaw03_awake.f k).bind fun t141 => (some t141)) else (some false))) else (none)) else (none)) else (some false))) else (some false)) = some r := H
        have A12 := Aside0.mk A120
        clear A120
        by_cases c13 : (t138 == (t133.toList == t134.toList)) = true
        · rw [if_pos c13] at H
          have c13b0 : (t138 == (t133.toList == t134.toList)) = true := c13
          (try (have c13b1 : decide (t138 = (t133.toList == t134.toList)) = true := by simpa using c13))
          (try (have c13b2 : (t138 == (t133.toList == t134.toList)) = true := by simpa using c13))
          clear c13
          replace H := Option.bind_eq_some_iff.mp H
          obtain ⟨t139, A140, H⟩ := H
          replace H : (if t139 = true then (if t134.size + 1 ≤ 9223372036854775807 then (if t134.size + t133.size ≤ 9223372036854775807 then ((glob_Match.f k (t134 ++ (⟨#[42]⟩ : ByteArray)) (t134 ++ t133)).bind fun t140 => (if t140 = true then ((wainwrightlaw03_awake.f k).bind fun t141 => (some t141)) else (some false))) else (none)) else (none)) else (some false)) = some r := H
          have A14 := Aside0.mk A140
          clear A140
          by_cases c15 : t139 = true
          · subst c15
            have H1 : (if t134.size + 1 ≤ 9223372036854775807 then (if t134.size + t133.size ≤ 9223372036854775807 then ((glob_Match.f k (t134 ++ (⟨#[42]⟩ : ByteArray)) (t134 ++ t133)).bind fun t140 => (if t140 = true then ((wainwrightlaw03_awake.f k).bind fun t141 => (some t141)) else (some false))) else (none)) else (none)) = some r := by rw [if_pos rfl] at H; exact H
            clear H
            have H := H1
            clear H1
            by_cases c16 : t134.size + 1 ≤ 9223372036854775807
            · rw [if_pos c16] at H
              have c16b0 := eq_true c16
              have c16b1 : decide (t134.size + 1 ≤ 9223372036854775807) = true := decide_eq_true c16
              try have c16b2 : (9223372036854775807 < t134.size + 1) = False := eq_false (Nat.not_lt.2 c16)
              by_cases c17 : t134.size + t133.size ≤ 9223372036854775807
              · rw [if_pos c17] at H
                have c17b0 := eq_true c17
                have c17b1 : decide (t134.size + t133.size ≤ 9223372036854775807) = true := decide_eq_true c17
                try have c17b2 : (9223372036854775807 < t134.size + t133.size) = False := eq_false (Nat.not_lt.2 c17)
                replace H := Option.bind_eq_some_iff.mp H
                obtain ⟨t140, A180, H⟩ := H
                replace H : (if t140 = true then ((wainwrightlaw03_awake.f k).bind fun t141 => (some t141)) else (some false)) = some r := H
                have A18 := Aside0.mk A180
                clear A180
                by_cases c19 : t140 = true
                · subst c19
                  have H1 : ((wainwrightlaw03_awake.f k).bind fun t141 => (some t141)) = some r := by rw [if_pos rfl] at H; exact H
                  clear H
                  have H := H1
                  clear H1
                  replace H := Option.bind_eq_some_iff.mp H
                  obtain ⟨t141, A200, H⟩ := H
                  replace H : (some t141) = some r := H
                  have A20 := Aside0.mk A200
                  clear A200
                  obtain rfl := Option.some.inj H
                  go_enter Try.func4, Try.ntmps4
                  go_wp2_with (first | (go_at_call 15; (with_reducible refine (wainwrightlaw03_GlobPlain_1.calls k _ _ l0 (⟨#[92, 42]⟩ : ByteArray) t132 _ ?side1 ?side2 A3.out).mono ?_); (case side1 => repeat (first | exact HR0.out | (with_reducible refine Kd.C_alloc ?_ _) | (with_reducible refine Kd.C_drewN ?_ _) | (with_reducible refine Kd.C_drew ?_))); (case side2 => exact HC0.out); rintro e w' ⟨rfl, ⟨nd, rfl⟩⟩) | (go_at_call 15; (with_reducible refine (wainwrightlaw03_GlobPlain_1.calls k _ _ l1 (⟨#[42]⟩ : ByteArray) t133 _ ?side1 ?side2 A4.out).mono ?_); (case side1 => repeat (first | exact HR1.out | (with_reducible refine Kd.C_alloc ?_ _) | (with_reducible refine Kd.C_drewN ?_ _) | (with_reducible refine Kd.C_drew ?_))); (case side2 => exact HC1.out); rintro e w' ⟨rfl, ⟨nd, rfl⟩⟩) | (go_at_call 15; (with_reducible refine (wainwrightlaw03_GlobPlain_1.calls k _ _ l0 (⟨#[42]⟩ : ByteArray) t134 _ ?side1 ?side2 A5.out).mono ?_); (case side1 => repeat (first | exact HR0.out | (with_reducible refine Kd.C_alloc ?_ _) | (with_reducible refine Kd.C_drewN ?_ _) | (with_reducible refine Kd.C_drew ?_))); (case side2 => exact HC0.out); rintro e w' ⟨rfl, ⟨nd, rfl⟩⟩) | ((with_reducible refine gate_callee (f := 11) rfl ?_); refine goesL_ (some 19) rfl rfl Try.func11 (by kernel_rfl) rfl #[.string t132] rfl (by (try simp only [List.map_toArray, List.map_cons, List.map_nil]); first | done | rfl | (simp only [List.length_drop, List.length_take]; rfl)) ?_; (with_reducible refine (glob_Magic.calls k t132 false _ A6.out).mono ?_); rintro e w21 ⟨rfl, hb⟩; refine ⟨_, rfl, ?_⟩; have n0_ := Aside0.mk (below_step (by repeat (first | (with_reducible first | exact HB.out | apply below_alloc | apply pw_below_drewN | apply below_drew1) | exact HB.out)) hb); clear HB; have HB := n0_; clear n0_; (try clear hb); (try clear hb2); (try clear hk); (try clear hi)) | (go_at_call 13; (with_reducible refine (glob_Plain.calls t132 t136 _ A8.out).mono ?_); rintro e w22 ⟨rfl, hb⟩; have n0_ := Aside0.mk (below_step (by repeat (first | (with_reducible first | exact HB.out | apply below_alloc | apply pw_below_drewN | apply below_drew1) | exact HB.out)) hb); clear HB; have HB := n0_; clear n0_; (try clear hb); (try clear hb2); (try clear hk); (try clear hi)) | (go_at_call 9; (with_reducible refine (glob_Match.calls k t132 t134 true _ A10.out).mono ?_); rintro e w23 ⟨rfl, hb⟩; have n0_ := Aside0.mk (below_step (by repeat (first | (with_reducible first | exact HB.out | apply below_alloc | apply pw_below_drewN | apply below_drew1) | exact HB.out)) hb); clear HB; have HB := n0_; clear n0_; (try clear hb); (try clear hb2); (try clear hk); (try clear hi)) | (go_at_call 9; (with_reducible refine (glob_Match.calls k t132 t133 t138 _ A12.out).mono ?_); rintro e w24 ⟨rfl, hb⟩; have n0_ := Aside0.mk (below_step (by repeat (first | (with_reducible first | exact HB.out | apply below_alloc | apply pw_below_drewN | apply below_drew1) | exact HB.out)) hb); clear HB; have HB := n0_; clear n0_; (try clear hb); (try clear hb2); (try clear hk); (try clear hi)) | (go_at_call 9; (with_reducible refine (glob_Match.calls k (⟨#[42]⟩ : ByteArray) t133 true _ A14.out).mono ?_); rintro e w25 ⟨rfl, hb⟩; have n0_ := Aside0.mk (below_step (by repeat (first | (with_reducible first | exact HB.out | apply below_alloc | apply pw_below_drewN | apply below_drew1) | exact HB.out)) hb); clear HB; have HB := n0_; clear n0_; (try clear hb); (try clear hb2); (try clear hk); (try clear hi)) | (go_at_call 9; (with_reducible refine (glob_Match.calls k (t134 ++ (⟨#[42]⟩ : ByteArray)) (t134 ++ t133) true _ A18.out).mono ?_); rintro e w26 ⟨rfl, hb⟩; have n0_ := Aside0.mk (below_step (by repeat (first | (with_reducible first | exact HB.out | apply below_alloc | apply pw_below_drewN | apply below_drew1) | exact HB.out)) hb); clear HB; have HB := n0_; clear n0_; (try clear hb); (try clear hb2); (try clear hk); (try clear hi)) | (go_at_call 8; (with_reducible refine (wainwrightlaw03_awake.calls k  t141 _ A20.out).mono ?_); rintro e w27 ⟨rfl, hb⟩; have n0_ := Aside0.mk (below_step (by repeat (first | (with_reducible first | exact HB.out | apply below_alloc | apply pw_below_drewN | apply below_drew1) | exact HB.out)) hb); clear HB; have HB := n0_; clear n0_; (try clear hb); (try clear hb2); (try clear hk); (try clear hi)))
                  go_ret
                  exact ⟨by first | rfl | (simp [errW_none, errW_some] <;> rfl) | (simp [*, errW_none, errW_some] <;> rfl), by repeat (first | (with_reducible first | exact HB.out | apply below_alloc | apply pw_below_drewN | apply below_drew1) | exact HB.out)⟩
                · replace c19 := Bool.eq_false_iff.mpr c19
                  subst c19
                  have H1 : (some false) = some r := by rw [if_neg (show ¬ (false = true) by decide)] at H; exact H
                  clear H
                  have H := H1
                  clear H1
                  exact absurd ((Option.some.inj H).trans hr_.out) (by decide)
              · rw [if_neg c17] at H
                exact absurd H (by simp)
            · rw [if_neg c16] at H
              exact absurd H (by simp)
          · replace c15 := Bool.eq_false_iff.mpr c15
            subst c15
            have H1 : (some false) = some r := by rw [if_neg (show ¬ (false = true) by decide)] at H; exact H
            clear H
            have H := H1
            clear H1
            exact absurd ((Option.some.inj H).trans hr_.out) (by decide)
        · rw [if_neg c13] at H
          have c13b0 : (t138 == (t133.toList == t134.toList)) = false := by simpa using c13
          (try (have c13b1 : decide (t138 = (t133.toList == t134.toList)) = false := by simpa using c13))
          (try (have c13b2 : (t138 == (t133.toList == t134.toList)) = false := by simpa using c13))
          (try (have c13b3 : ¬ (t138 = (t133.toList == t134.toList)) := by simpa using c13))
          clear c13
          exact absurd ((Option.some.inj H).trans hr_.out) (by decide)
      · replace c11 := Bool.eq_false_iff.mpr c11
        subst c11
        have H1 : (some false) = some r := by rw [if_neg (show ¬ (false = true) by decide)] at H; exact H
        clear H
        have H := H1
        clear H1
        exact absurd ((Option.some.inj H).trans hr_.out) (by decide)
    · rw [if_neg c9] at H
      have c9b0 : (t136.toList == t134.toList) = false := beq_eq_false_iff_ne.mpr c9
      have c9b1 : (t136.toList != t134.toList) = true := bne_iff_ne.mpr c9
      exact absurd ((Option.some.inj H).trans hr_.out) (by decide)

/-- THE ONE PURE STATEMENT of wainwrightlaw03_GlobPlain: yours. -/
def wainwrightlaw03_GlobPlain.Pure : Prop := ∀ (l0 : List Int) (l1 : List Int), l0.length ≤ maxLen → l0.length * 8 ≤ 140737488351232 → (∀ x ∈ l0, (Lit.int .i64 x).wf = true) → l1.length ≤ maxLen → l1.length * 8 ≤ 140737488351232 → (∀ x ∈ l1, (Lit.int .i64 x).wf = true) → ∃ k, wainwrightlaw03_GlobPlain.f k l0 l1 = some true
theorem wainwrightlaw03_GlobPlain.walk (P : wainwrightlaw03_GlobPlain.Pure) (a0 : Option Addr) (len0 cap0 : Nat) (z0 : List Int) (a1 : Option Addr) (len1 cap1 : Nat) (z1 : List Int) (w : World) (w0 : (a0 = none ∧ len0 = 0 ∧ cap0 = 0 ∧ z0 = []) ∨ ∃ x, a0 = some x ∧ len0 ≤ cap0 ∧ cap0 ≤ maxLen ∧ z0.length = cap0 ∧ (∀ i, i < z0.length → w.cell? (x.add i) = some (.int .i64 (z0.getD i 0))) ∧ ∀ n ∈ z0, (Lit.int .i64 n).wf = true) (y0 : len0 * 8 ≤ 140737488351232) (w1 : (a1 = none ∧ len1 = 0 ∧ cap1 = 0 ∧ z1 = []) ∨ ∃ x, a1 = some x ∧ len1 ≤ cap1 ∧ cap1 ≤ maxLen ∧ z1.length = cap1 ∧ (∀ i, i < z1.length → w.cell? (x.add i) = some (.int .i64 (z1.getD i 0))) ∧ ∀ n ∈ z1, (Lit.int .i64 n).wf = true) (y1 : len1 * 8 ≤ 140737488351232) :
    Calls Try.prog 4 #[.slice a0 len0 cap0, .slice a1 len1 cap1] w fun e w' => e = .returned (.bool true) ∧ Below w.heap.size w w' := by
  obtain ⟨l0, rfl, hr0, hm0, hw0, hc0⟩ := ReadsInt.ofRowC w0
  obtain ⟨l1, rfl, hr1, hm1, hw1, hc1⟩ := ReadsInt.ofRowC w1
  obtain ⟨k, h⟩ := P l0 l1 hm0 y0 hw0 hm1 y1 hw1
  refine (wainwrightlaw03_GlobPlain.calls k _ _ l0 _ _ l1 true (show Hid (true = true) from rfl) w (Kd.C_of_reads (d := (0 : Int)) (h1 := fun _ => rfl) hr0) hc0 (Kd.C_of_reads (d := (0 : Int)) (h1 := fun _ => rfl) hr1) hc1 h).mono ?_
  rintro e w' ⟨rfl, hd⟩
  exact ⟨rfl, hd⟩

end Go.Proofs.Ytpoekljclapbfaa.P
