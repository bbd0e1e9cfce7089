-- Written by a program of this session (wip/tools) out of the translation, over the kit's print. Not trusted: Lean checks it.
import Derived.Test.YtpoekljclapbfaaPx0
import Derived.Test.YtpoekljclapbfaaPx6
import Derived.Test.YtpoekljclapbfaaPx7
import Derived.Test.YtpoekljclapbfaaGlobPlain
namespace Go.Proofs.Ytpoekljclapbfaa.G
end Go.Proofs.Ytpoekljclapbfaa.G
namespace Go.Proofs.Ytpoekljclapbfaa.P0
end Go.Proofs.Ytpoekljclapbfaa.P0
namespace Go.Proofs.Ytpoekljclapbfaa.P
open Go.Proofs.Ytpoekljclapbfaa.G Go.Proofs.Ytpoekljclapbfaa.P0
open Go.RowKit Go.Proofs.YtpoekljclapbfaaW.PrintWords Go.Proofs.YtpoekljclapbfaaW.PrintLast Go.Proofs.YtpoekljclapbfaaW.PrintMore
attribute [local go_sem] max2_int min2_int max_two min_two max_three min_three max_four min_four   -- for this text's walks alone
set_option linter.unusedVariables false
set_option linter.unusedSimpArgs false

/-! ### wainwrightlaw03_awake: function 8 -/
def wainwrightlaw03_awake.f (k : Nat)  : Option (Bool) := (glob_Match.f k (⟨#[42, 46, 99]⟩ : ByteArray) (⟨#[97, 46, 99]⟩ : ByteArray)).bind fun t124 => (if t124 = true then ((glob_Match.f k (⟨#[42, 46, 99]⟩ : ByteArray) (⟨#[46, 99]⟩ : ByteArray)).bind fun t125 => (if t125 = true then (some false) else ((glob_Match.f k (⟨#[91, 33, 97, 93, 63]⟩ : ByteArray) (⟨#[98, 99]⟩ : ByteArray)).bind fun t126 => (if t126 = true then ((glob_Magic.f k (⟨#[97, 42]⟩ : ByteArray)).bind fun t127 => (if t127 = true then ((glob_Magic.f k (⟨#[97, 92, 42]⟩ : ByteArray)).bind fun t128 => (if t128 = true then (some false) else ((glob_Plain.f (⟨#[97, 92, 42]⟩ : ByteArray)).bind fun t129 => (some (t129.toList == ([97, 42] : List UInt8)))))) else (some false))) else (some false))))) else (some false))
theorem wainwrightlaw03_awake.mono : ∀ k, LeO (wainwrightlaw03_awake.f k ) (wainwrightlaw03_awake.f (k + 1) ) := by
  intro  k
  unfold wainwrightlaw03_awake.f
  repeat' first
      | (with_reducible exact glob_Magic.mono _ _)
      | (with_reducible exact glob_Match.mono _ _ _)
      | (with_reducible exact LeO.refl _)
      | (with_reducible exact LeO.none _)
      | (with_reducible refine LeO.ite ?_ ?_)
      | (with_reducible refine LeO.bind ?_ (fun _ => ?_))
      | exact glob_Magic.mono _ _
      | exact glob_Match.mono _ _ _
      | exact LeO.none _
      | refine LeO.ite ?_ ?_
      | refine LeO.bind ?_ (fun _ => ?_)
set_option maxHeartbeats 8000000 in
set_option maxRecDepth 100000 in
theorem wainwrightlaw03_awake.calls (k : Nat)  (r : Bool) (w : World) (h : wainwrightlaw03_awake.f k  = some r) :
    Calls Try.prog 8 #[] w fun e w' => e = .returned (.bool r) ∧ Below w.heap.size w w' := by
  have HB := Aside0.mk (Below.refl w.heap.size w)
  have H : ((glob_Match.f k (⟨#[42, 46, 99]⟩ : ByteArray) (⟨#[97, 46, 99]⟩ : ByteArray)).bind fun t124 => (if t124 = true then ((glob_Match.f k (⟨#[42, 46, 99]⟩ : ByteArray) (⟨#[46, 99]⟩ : ByteArray)).bind fun t125 => (if t125 = true then (some false) else ((glob_Match.f k (⟨#[91, 33, 97, 93, 63]⟩ : ByteArray) (⟨#[98, 99]⟩ : ByteArray)).bind fun t126 => (if t126 = true then ((glob_Magic.f k (⟨#[97, 42]⟩ : ByteArray)).bind fun t127 => (if t127 = true then ((glob_Magic.f k (⟨#[97, 92, 42]⟩ : ByteArray)).bind fun t128 => (if t128 = true then (some false) else ((glob_Plain.f (⟨#[97, 92, 42]⟩ : ByteArray)).bind fun t129 => (some (t129.toList == ([97, 42] : List UInt8)))))) else (some false))) else (some false))))) else (some false))) = some r := h
  clear h
  replace H := Option.bind_eq_some_iff.mp H
  obtain ⟨t124, A10, H⟩ := H
  replace H : (if t124 = true then ((glob_Match.f k (⟨#[42, 46, 99]⟩ : ByteArray) (⟨#[46, 99]⟩ : ByteArray)).bind fun t125 => (if t125 = true then (some false) else ((glob_Match.f k (⟨#[91, 33, 97, 93, 63]⟩ : ByteArray) (⟨#[98, 99]⟩ : ByteArray)).bind fun t126 => (if t126 = true then ((glob_Magic.f k (⟨#[97, 42]⟩ : ByteArray)).bind fun t127 => (if t127 = true then ((glob_Magic.f k (⟨#[97, 92, 42]⟩ : ByteArray)).bind fun t128 => (if t128 = true then (some false) else ((glob_Plain.f (⟨#[97, 92, 42]⟩ : ByteArray)).bind fun t129 => (some (t129.toList == ([97, 42] : List UInt8)))))) else (some false))) else (some false))))) else (some false)) = some r := H
  have A1 := Aside0.mk A10
  clear A10
  by_cases c2 : t124 = true
  · subst c2
    have H1 : ((glob_Match.f k (⟨#[42, 46, 99]⟩ : ByteArray) (⟨#[46, 99]⟩ : ByteArray)).bind fun t125 => (if t125 = true then (some false) else ((glob_Match.f k (⟨#[91, 33, 97, 93, 63]⟩ : ByteArray) (⟨#[98, 99]⟩ : ByteArray)).bind fun t126 => (if t126 = true then ((glob_Magic.f k (⟨#[97, 42]⟩ : ByteArray)).bind fun t127 => (if t127 = true then ((glob_Magic.f k (⟨#[97, 92, 42]⟩ : ByteArray)).bind fun t128 => (if t128 = true then (some false) else ((glob_Plain.f (⟨#[97, 92, 42]⟩ : ByteArray)).bind fun t129 => (some (t129.toList == ([97, 42] : List UInt8)))))) else (some false))) else (some false))))) = some r := by rw [if_pos rfl] at H; exact H
    clear H
    have H := H1
    clear H1
    replace H := Option.bind_eq_some_iff.mp H
    obtain ⟨t125, A30, H⟩ := H
    replace H : (if t125 = true then (some false) else ((glob_Match.f k (⟨#[91, 33, 97, 93, 63]⟩ : ByteArray) (⟨#[98, 99]⟩ : ByteArray)).bind fun t126 => (if t126 = true then ((glob_Magic.f k (⟨#[97, 42]⟩ : ByteArray)).bind fun t127 => (if t127 = true then ((glob_Magic.f k (⟨#[97, 92, 42]⟩ : ByteArray)).bind fun t128 => (if t128 = true then (some false) else ((glob_Plain.f (⟨#[97, 92, 42]⟩ : ByteArray)).bind fun t129 => (some (t129.toList == ([97, 42] : List UInt8)))))) else (some false))) else (some false)))) = some r := H
    have A3 := Aside0.mk A30
    clear A30
    by_cases c4 : t125 = true
    · subst c4
      have H1 : (some false) = some r := by rw [if_pos rfl] at H; exact H
      clear H
      have H := H1
      clear H1
      obtain rfl := Option.some.inj H
      go_enter Try.func8, Try.ntmps8
      go_wp2_with (first | ((with_reducible refine gate_callee (f := 9) rfl ?_); refine goesL_ (some 1) rfl rfl Try.func9 (by kernel_rfl) rfl #[.string (⟨#[42, 46, 99]⟩ : ByteArray), .string (⟨#[97, 46, 99]⟩ : ByteArray)] rfl (by (try simp only [List.map_toArray, List.map_cons, List.map_nil]); first | done | rfl | (simp only [List.length_drop, List.length_take]; rfl)) ?_; (with_reducible refine (glob_Match.calls k (⟨#[42, 46, 99]⟩ : ByteArray) (⟨#[97, 46, 99]⟩ : ByteArray) true _ A1.out).mono ?_); rintro e w5 ⟨rfl, hb⟩; refine ⟨_, rfl, ?_⟩; have n0_ := Aside0.mk (below_step (by repeat (first | (with_reducible first | exact HB.out | apply below_alloc | apply pw_below_drewN | apply below_drew1) | exact HB.out)) hb); clear HB; have HB := n0_; clear n0_; (try clear hb); (try clear hb2); (try clear hk); (try clear hi)) | (go_at_call 9; (with_reducible refine (glob_Match.calls k (⟨#[42, 46, 99]⟩ : ByteArray) (⟨#[46, 99]⟩ : ByteArray) true _ A3.out).mono ?_); rintro e w6 ⟨rfl, hb⟩; have n0_ := Aside0.mk (below_step (by repeat (first | (with_reducible first | exact HB.out | apply below_alloc | apply pw_below_drewN | apply below_drew1) | exact HB.out)) hb); clear HB; have HB := n0_; clear n0_; (try clear hb); (try clear hb2); (try clear hk); (try clear hi)))
      go_ret
      exact ⟨by first | rfl | (simp [errW_none, errW_some] <;> rfl) | (simp [*, errW_none, errW_some] <;> rfl), by repeat (first | (with_reducible first | exact HB.out | apply below_alloc | apply pw_below_drewN | apply below_drew1) | exact HB.out)⟩
    · replace c4 := Bool.eq_false_iff.mpr c4
      subst c4
      have H1 : ((glob_Match.f k (⟨#[91, 33, 97, 93, 63]⟩ : ByteArray) (⟨#[98, 99]⟩ : ByteArray)).bind fun t126 => (if t126 = true then ((glob_Magic.f k (⟨#[97, 42]⟩ : ByteArray)).bind fun t127 => (if t127 = true then ((glob_Magic.f k (⟨#[97, 92, 42]⟩ : ByteArray)).bind fun t128 => (if t128 = true then (some false) else ((glob_Plain.f (⟨#[97, 92, 42]⟩ : ByteArray)).bind fun t129 => (some (t129.toList == ([97, 42] : List UInt8)))))) else (some false))) else (some false))) = some r := by rw [if_neg (show ¬ (false = true) by decide)] at H; exact H
      clear H
      have H := H1
      clear H1
      replace H := Option.bind_eq_some_iff.mp H
      obtain ⟨t126, A70, H⟩ := H
      replace H : (if t126 = true then ((glob_Magic.f k (⟨#[97, 42]⟩ : ByteArray)).bind fun t127 => (if t127 = true then ((glob_Magic.f k (⟨#[97, 92, 42]⟩ : ByteArray)).bind fun t128 => (if t128 = true then (some false) else ((glob_Plain.f (⟨#[97, 92, 42]⟩ : ByteArray)).bind fun t129 => (some (t129.toList == ([97, 42] : List UInt8)))))) else (some false))) else (some false)) = some r := H
      have A7 := Aside0.mk A70
      clear A70
      by_cases c8 : t126 = true
      · subst c8
        have H1 : ((glob_Magic.f k (⟨#[97, 42]⟩ : ByteArray)).bind fun t127 => (if t127 = true then ((glob_Magic.f k (⟨#[97, 92, 42]⟩ : ByteArray)).bind fun t128 => (if t128 = true then (some false) else ((glob_Plain.f (⟨#[97, 92, 42]⟩ : ByteArray)).bind fun t129 => (some (t129.toList == ([97, 42] : List UInt8)))))) else (some false))) = some r := by rw [if_pos rfl] at H; exact H
        clear H
        have H := H1
        clear H1
        replace H := Option.bind_eq_some_iff.mp H
        obtain ⟨t127, A90, H⟩ := H
        replace H : (if t127 = true then ((glob_Magic.f k (⟨#[97, 92, 42]⟩ : ByteArray)).bind fun t128 => (if t128 = true then (some false) else ((glob_Plain.f (⟨#[97, 92, 42]⟩ : ByteArray)).bind fun t129 => (some (t129.toList == ([97, 42] : List UInt8)))))) else (some false)) = some r := H
        have A9 := Aside0.mk A90
        clear A90
        by_cases c10 : t127 = true
        · subst c10
          have H1 : ((glob_Magic.f k (⟨#[97, 92, 42]⟩ : ByteArray)).bind fun t128 => (if t128 = true then (some false) else ((glob_Plain.f (⟨#[97, 92, 42]⟩ : ByteArray)).bind fun t129 => (some (t129.toList == ([97, 42] : List UInt8)))))) = some r := by rw [if_pos rfl] at H; exact H
          clear H
          have H := H1
          clear H1
          replace H := Option.bind_eq_some_iff.mp H
          obtain ⟨t128, A110, H⟩ := H
          replace H : (if t128 = true then (some false) else ((glob_Plain.f (⟨#[97, 92, 42]⟩ : ByteArray)).bind fun t129 => (some (t129.toList == ([97, 42] : List UInt8))))) = some r := H
          have A11 := Aside0.mk A110
          clear A110
          by_cases c12 : t128 = true
          · subst c12
            have H1 : (some false) = some r := by rw [if_pos rfl] at H; exact H
            clear H
            have H := H1
            clear H1
            obtain rfl := Option.some.inj H
            go_enter Try.func8, Try.ntmps8
            go_wp2_with (first | ((with_reducible refine gate_callee (f := 9) rfl ?_); refine goesL_ (some 1) rfl rfl Try.func9 (by kernel_rfl) rfl #[.string (⟨#[42, 46, 99]⟩ : ByteArray), .string (⟨#[97, 46, 99]⟩ : ByteArray)] rfl (by (try simp only [List.map_toArray, List.map_cons, List.map_nil]); first | done | rfl | (simp only [List.length_drop, List.length_take]; rfl)) ?_; (with_reducible refine (glob_Match.calls k (⟨#[42, 46, 99]⟩ : ByteArray) (⟨#[97, 46, 99]⟩ : ByteArray) true _ A1.out).mono ?_); rintro e w13 ⟨rfl, hb⟩; refine ⟨_, rfl, ?_⟩; have n0_ := Aside0.mk (below_step (by repeat (first | (with_reducible first | exact HB.out | apply below_alloc | apply pw_below_drewN | apply below_drew1) | exact HB.out)) hb); clear HB; have HB := n0_; clear n0_; (try clear hb); (try clear hb2); (try clear hk); (try clear hi)) | (go_at_call 9; (with_reducible refine (glob_Match.calls k (⟨#[42, 46, 99]⟩ : ByteArray) (⟨#[46, 99]⟩ : ByteArray) false _ A3.out).mono ?_); rintro e w14 ⟨rfl, hb⟩; have n0_ := Aside0.mk (below_step (by repeat (first | (with_reducible first | exact HB.out | apply below_alloc | apply pw_below_drewN | apply below_drew1) | exact HB.out)) hb); clear HB; have HB := n0_; clear n0_; (try clear hb); (try clear hb2); (try clear hk); (try clear hi)) | (go_at_call 9; (with_reducible refine (glob_Match.calls k (⟨#[91, 33, 97, 93, 63]⟩ : ByteArray) (⟨#[98, 99]⟩ : ByteArray) true _ A7.out).mono ?_); rintro e w15 ⟨rfl, hb⟩; have n0_ := Aside0.mk (below_step (by repeat (first | (with_reducible first | exact HB.out | apply below_alloc | apply pw_below_drewN | apply below_drew1) | exact HB.out)) hb); clear HB; have HB := n0_; clear n0_; (try clear hb); (try clear hb2); (try clear hk); (try clear hi)) | (go_at_call 11; (with_reducible refine (glob_Magic.calls k (⟨#[97, 42]⟩ : ByteArray) true _ A9.out).mono ?_); rintro e w16 ⟨rfl, hb⟩; have n0_ := Aside0.mk (below_step (by repeat (first | (with_reducible first | exact HB.out | apply below_alloc | apply pw_below_drewN | apply below_drew1) | exact HB.out)) hb); clear HB; have HB := n0_; clear n0_; (try clear hb); (try clear hb2); (try clear hk); (try clear hi)) | (go_at_call 11; (with_reducible refine (glob_Magic.calls k (⟨#[97, 92, 42]⟩ : ByteArray) true _ A11.out).mono ?_); rintro e w17 ⟨rfl, hb⟩; have n0_ := Aside0.mk (below_step (by repeat (first | (with_reducible first | exact HB.out | apply below_alloc | apply pw_below_drewN | apply below_drew1) | exact HB.out)) hb); clear HB; have HB := n0_; clear n0_; (try clear hb); (try clear hb2); (try clear hk); (try clear hi)))
            go_ret
            exact ⟨by first | rfl | (simp [errW_none, errW_some] <;> rfl) | (simp [*, errW_none, errW_some] <;> rfl), by repeat (first | (with_reducible first | exact HB.out | apply below_alloc | apply pw_below_drewN | apply below_drew1) | exact HB.out)⟩
          · replace c12 := Bool.eq_false_iff.mpr c12
            subst c12
            have H1 : ((glob_Plain.f (⟨#[97, 92, 42]⟩ : ByteArray)).bind fun t129 => (some (t129.toList == ([97, 42] : List UInt8)))) = some r := by rw [if_neg (show ¬ (false = true) by decide)] at H; exact H
            clear H
            have H := H1
            clear H1
            replace H := Option.bind_eq_some_iff.mp H
            obtain ⟨t129, A180, H⟩ := H
            replace H : (some (t129.toList == ([97, 42] : List UInt8))) = some r := H
            have A18 := Aside0.mk A180
            clear A180
            obtain rfl := Option.some.inj H
            go_enter Try.func8, Try.ntmps8
            go_wp2_with (first | ((with_reducible refine gate_callee (f := 9) rfl ?_); refine goesL_ (some 1) rfl rfl Try.func9 (by kernel_rfl) rfl #[.string (⟨#[42, 46, 99]⟩ : ByteArray), .string (⟨#[97, 46, 99]⟩ : ByteArray)] rfl (by (try simp only [List.map_toArray, List.map_cons, List.map_nil]); first | done | rfl | (simp only [List.length_drop, List.length_take]; rfl)) ?_; (with_reducible refine (glob_Match.calls k (⟨#[42, 46, 99]⟩ : ByteArray) (⟨#[97, 46, 99]⟩ : ByteArray) true _ A1.out).mono ?_); rintro e w19 ⟨rfl, hb⟩; refine ⟨_, rfl, ?_⟩; have n0_ := Aside0.mk (below_step (by repeat (first | (with_reducible first | exact HB.out | apply below_alloc | apply pw_below_drewN | apply below_drew1) | exact HB.out)) hb); clear HB; have HB := n0_; clear n0_; (try clear hb); (try clear hb2); (try clear hk); (try clear hi)) | (go_at_call 9; (with_reducible refine (glob_Match.calls k (⟨#[42, 46, 99]⟩ : ByteArray) (⟨#[46, 99]⟩ : ByteArray) false _ A3.out).mono ?_); rintro e w20 ⟨rfl, hb⟩; have n0_ := Aside0.mk (below_step (by repeat (first | (with_reducible first | exact HB.out | apply below_alloc | apply pw_below_drewN | apply below_drew1) | exact HB.out)) hb); clear HB; have HB := n0_; clear n0_; (try clear hb); (try clear hb2); (try clear hk); (try clear hi)) | (go_at_call 9; (with_reducible refine (glob_Match.calls k (⟨#[91, 33, 97, 93, 63]⟩ : ByteArray) (⟨#[98, 99]⟩ : ByteArray) true _ A7.out).mono ?_); rintro e w21 ⟨rfl, hb⟩; have n0_ := Aside0.mk (below_step (by repeat (first | (with_reducible first | exact HB.out | apply below_alloc | apply pw_below_drewN | apply below_drew1) | exact HB.out)) hb); clear HB; have HB := n0_; clear n0_; (try clear hb); (try clear hb2); (try clear hk); (try clear hi)) | (go_at_call 11; (with_reducible refine (glob_Magic.calls k (⟨#[97, 42]⟩ : ByteArray) true _ A9.out).mono ?_); rintro e w22 ⟨rfl, hb⟩; have n0_ := Aside0.mk (below_step (by repeat (first | (with_reducible first | exact HB.out | apply below_alloc | apply pw_below_drewN | apply below_drew1) | exact HB.out)) hb); clear HB; have HB := n0_; clear n0_; (try clear hb); (try clear hb2); (try clear hk); (try clear hi)) | (go_at_call 11; (with_reducible refine (glob_Magic.calls k (⟨#[97, 92, 42]⟩ : ByteArray) false _ A11.out).mono ?_); rintro e w23 ⟨rfl, hb⟩; have n0_ := Aside0.mk (below_step (by repeat (first | (with_reducible first | exact HB.out | apply below_alloc | apply pw_below_drewN | apply below_drew1) | exact HB.out)) hb); clear HB; have HB := n0_; clear n0_; (try clear hb); (try clear hb2); (try clear hk); (try clear hi)) | (go_at_call 13; (with_reducible refine (glob_Plain.calls (⟨#[97, 92, 42]⟩ : ByteArray) t129 _ A18.out).mono ?_); rintro e w24 ⟨rfl, hb⟩; have n0_ := Aside0.mk (below_step (by repeat (first | (with_reducible first | exact HB.out | apply below_alloc | apply pw_below_drewN | apply below_drew1) | exact HB.out)) hb); clear HB; have HB := n0_; clear n0_; (try clear hb); (try clear hb2); (try clear hk); (try clear hi)))
            go_ret
            exact ⟨by first | rfl | (simp [errW_none, errW_some] <;> rfl) | (simp [*, errW_none, errW_some] <;> rfl), by repeat (first | (with_reducible first | exact HB.out | apply below_alloc | apply pw_below_drewN | apply below_drew1) | exact HB.out)⟩
        · replace c10 := Bool.eq_false_iff.mpr c10
          subst c10
          have H1 : (some false) = some r := by rw [if_neg (show ¬ (false = true) by decide)] at H; exact H
          clear H
          have H := H1
          clear H1
          obtain rfl := Option.some.inj H
          go_enter Try.func8, Try.ntmps8
          go_wp2_with (first | ((with_reducible refine gate_callee (f := 9) rfl ?_); refine goesL_ (some 1) rfl rfl Try.func9 (by kernel_rfl) rfl #[.string (⟨#[42, 46, 99]⟩ : ByteArray), .string (⟨#[97, 46, 99]⟩ : ByteArray)] rfl (by (try simp only [List.map_toArray, List.map_cons, List.map_nil]); first | done | rfl | (simp only [List.length_drop, List.length_take]; rfl)) ?_; (with_reducible refine (glob_Match.calls k (⟨#[42, 46, 99]⟩ : ByteArray) (⟨#[97, 46, 99]⟩ : ByteArray) true _ A1.out).mono ?_); rintro e w25 ⟨rfl, hb⟩; refine ⟨_, rfl, ?_⟩; have n0_ := Aside0.mk (below_step (by repeat (first | (with_reducible first | exact HB.out | apply below_alloc | apply pw_below_drewN | apply below_drew1) | exact HB.out)) hb); clear HB; have HB := n0_; clear n0_; (try clear hb); (try clear hb2); (try clear hk); (try clear hi)) | (go_at_call 9; (with_reducible refine (glob_Match.calls k (⟨#[42, 46, 99]⟩ : ByteArray) (⟨#[46, 99]⟩ : ByteArray) false _ A3.out).mono ?_); rintro e w26 ⟨rfl, hb⟩; have n0_ := Aside0.mk (below_step (by repeat (first | (with_reducible first | exact HB.out | apply below_alloc | apply pw_below_drewN | apply below_drew1) | exact HB.out)) hb); clear HB; have HB := n0_; clear n0_; (try clear hb); (try clear hb2); (try clear hk); (try clear hi)) | (go_at_call 9; (with_reducible refine (glob_Match.calls k (⟨#[91, 33, 97, 93, 63]⟩ : ByteArray) (⟨#[98, 99]⟩ : ByteArray) true _ A7.out).mono ?_); rintro e w27 ⟨rfl, hb⟩; have n0_ := Aside0.mk (below_step (by repeat (first | (with_reducible first | exact HB.out | apply below_alloc | apply pw_below_drewN | apply below_drew1) | exact HB.out)) hb); clear HB; have HB := n0_; clear n0_; (try clear hb); (try clear hb2); (try clear hk); (try clear hi)) | (go_at_call 11; (with_reducible refine (glob_Magic.calls k (⟨#[97, 42]⟩ : ByteArray) false _ A9.out).mono ?_); rintro e w28 ⟨rfl, hb⟩; have n0_ := Aside0.mk (below_step (by repeat (first | (with_reducible first | exact HB.out | apply below_alloc | apply pw_below_drewN | apply below_drew1) | exact HB.out)) hb); clear HB; have HB := n0_; clear n0_; (try clear hb); (try clear hb2); (try clear hk); (try clear hi)))
          go_ret
          exact ⟨by first | rfl | (simp [errW_none, errW_some] <;> rfl) | (simp [*, errW_none, errW_some] <;> rfl), by repeat (first | (with_reducible first | exact HB.out | apply below_alloc | apply pw_below_drewN | apply below_drew1) | exact HB.out)⟩
      · replace c8 := Bool.eq_false_iff.mpr c8
        subst c8
        have H1 : (some false) = some r := by rw [if_neg (show ¬ (false = true) by decide)] at H; exact H
        clear H
        have H := H1
        clear H1
        obtain rfl := Option.some.inj H
        go_enter Try.func8, Try.ntmps8
        go_wp2_with (first | ((with_reducible refine gate_callee (f := 9) rfl ?_); refine goesL_ (some 1) rfl rfl Try.func9 (by kernel_rfl) rfl #[.string (⟨#[42, 46, 99]⟩ : ByteArray), .string (⟨#[97, 46, 99]⟩ : ByteArray)] rfl (by (try simp only [List.map_toArray, List.map_cons, List.map_nil]); first | done | rfl | (simp only [List.length_drop, List.length_take]; rfl)) ?_; (with_reducible refine (glob_Match.calls k (⟨#[42, 46, 99]⟩ : ByteArray) (⟨#[97, 46, 99]⟩ : ByteArray) true _ A1.out).mono ?_); rintro e w29 ⟨rfl, hb⟩; refine ⟨_, rfl, ?_⟩; have n0_ := Aside0.mk (below_step (by repeat (first | (with_reducible first | exact HB.out | apply below_alloc | apply pw_below_drewN | apply below_drew1) | exact HB.out)) hb); clear HB; have HB := n0_; clear n0_; (try clear hb); (try clear hb2); (try clear hk); (try clear hi)) | (go_at_call 9; (with_reducible refine (glob_Match.calls k (⟨#[42, 46, 99]⟩ : ByteArray) (⟨#[46, 99]⟩ : ByteArray) false _ A3.out).mono ?_); rintro e w30 ⟨rfl, hb⟩; have n0_ := Aside0.mk (below_step (by repeat (first | (with_reducible first | exact HB.out | apply below_alloc | apply pw_below_drewN | apply below_drew1) | exact HB.out)) hb); clear HB; have HB := n0_; clear n0_; (try clear hb); (try clear hb2); (try clear hk); (try clear hi)) | (go_at_call 9; (with_reducible refine (glob_Match.calls k (⟨#[91, 33, 97, 93, 63]⟩ : ByteArray) (⟨#[98, 99]⟩ : ByteArray) false _ A7.out).mono ?_); rintro e w31 ⟨rfl, hb⟩; have n0_ := Aside0.mk (below_step (by repeat (first | (with_reducible first | exact HB.out | apply below_alloc | apply pw_below_drewN | apply below_drew1) | exact HB.out)) hb); clear HB; have HB := n0_; clear n0_; (try clear hb); (try clear hb2); (try clear hk); (try clear hi)))
        go_ret
        exact ⟨by first | rfl | (simp [errW_none, errW_some] <;> rfl) | (simp [*, errW_none, errW_some] <;> rfl), by repeat (first | (with_reducible first | exact HB.out | apply below_alloc | apply pw_below_drewN | apply below_drew1) | exact HB.out)⟩
  · replace c2 := Bool.eq_false_iff.mpr c2
    subst c2
    have H1 : (some false) = some r := by rw [if_neg (show ¬ (false = true) by decide)] at H; exact H
    clear H
    have H := H1
    clear H1
    obtain rfl := Option.some.inj H
    go_enter Try.func8, Try.ntmps8
    go_wp2_with (first | ((with_reducible refine gate_callee (f := 9) rfl ?_); refine goesL_ (some 1) rfl rfl Try.func9 (by kernel_rfl) rfl #[.string (⟨#[42, 46, 99]⟩ : ByteArray), .string (⟨#[97, 46, 99]⟩ : ByteArray)] rfl (by (try simp only [List.map_toArray, List.map_cons, List.map_nil]); first | done | rfl | (simp only [List.length_drop, List.length_take]; rfl)) ?_; (with_reducible refine (glob_Match.calls k (⟨#[42, 46, 99]⟩ : ByteArray) (⟨#[97, 46, 99]⟩ : ByteArray) false _ A1.out).mono ?_); rintro e w32 ⟨rfl, hb⟩; refine ⟨_, rfl, ?_⟩; have n0_ := Aside0.mk (below_step (by repeat (first | (with_reducible first | exact HB.out | apply below_alloc | apply pw_below_drewN | apply below_drew1) | exact HB.out)) hb); clear HB; have HB := n0_; clear n0_; (try clear hb); (try clear hb2); (try clear hk); (try clear hi)))
    go_ret
    exact ⟨by first | rfl | (simp [errW_none, errW_some] <;> rfl) | (simp [*, errW_none, errW_some] <;> rfl), by repeat (first | (with_reducible first | exact HB.out | apply below_alloc | apply pw_below_drewN | apply below_drew1) | exact HB.out)⟩

/-! ### wainwrightlaw00_Place: function 7 -/
def wainwrightlaw00_Place.f (a0 : Int) (a1 : Int) : Option (Int) := if a1 = 0 then (none) else (if (Int.tmod a0 a1) < 0 then (some (wrap64 ((Int.tmod a0 a1) + a1))) else (some (Int.tmod a0 a1)))
set_option maxHeartbeats 8000000 in
set_option maxRecDepth 100000 in
theorem wainwrightlaw00_Place.calls (a0 : Int) (a1 : Int) (r : Int) (w : World) (h : wainwrightlaw00_Place.f a0 a1 = some r) :
    Calls Try.prog 7 #[.int .i64 a0, .int .i64 a1] w fun e w' => e = .returned (.int .i64 r) ∧ Drawn0 w w' := by
  have H : (if a1 = 0 then (none) else (if (Int.tmod a0 a1) < 0 then (some (wrap64 ((Int.tmod a0 a1) + a1))) else (some (Int.tmod a0 a1)))) = some r := h
  clear h
  by_cases c3 : a1 = 0
  · rw [if_pos c3] at H
    exact absurd H (by simp)
  · rw [if_neg c3] at H
    have c3b0 : (a1 == 0) = false := beq_eq_false_iff_ne.mpr c3
    have c3b1 : (a1 != 0) = true := bne_iff_ne.mpr c3
    by_cases c4 : (Int.tmod a0 a1) < 0
    · rw [if_pos c4] at H
      have c4b0 : decide ((Int.tmod a0 a1) < 0) = true := decide_eq_true c4
      clear c4
      obtain rfl := Option.some.inj H
      go_enter Try.func7, Try.ntmps7
      go_wp2
      go_ret
      exact ⟨by first | rfl | (simp; done) | (simp [wrap64]; done) | (simp [*]; done), by repeat (first | exact Drawn0.refl _ | apply Drawn0.step)⟩
    · rw [if_neg c4] at H
      have c4b0 : decide ((Int.tmod a0 a1) < 0) = false := decide_eq_false c4
      clear c4
      obtain rfl := Option.some.inj H
      go_enter Try.func7, Try.ntmps7
      go_wp2
      go_ret
      exact ⟨by first | rfl | (simp; done) | (simp [wrap64]; done) | (simp [*]; done), by repeat (first | exact Drawn0.refl _ | apply Drawn0.step)⟩

end Go.Proofs.Ytpoekljclapbfaa.P
