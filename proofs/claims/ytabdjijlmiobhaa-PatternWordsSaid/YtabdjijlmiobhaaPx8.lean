-- Written by a program of this session (wip/tools) out of the translation, over the kit's print. Not trusted: Lean checks it.
import Derived.Test.YtabdjijlmiobhaaPx0
import Derived.Test.YtabdjijlmiobhaaPx6
namespace Go.Proofs.Ytabdjijlmiobhaa.G
end Go.Proofs.Ytabdjijlmiobhaa.G
namespace Go.Proofs.Ytabdjijlmiobhaa.P0
end Go.Proofs.Ytabdjijlmiobhaa.P0
namespace Go.Proofs.Ytabdjijlmiobhaa.P
open Go.Proofs.Ytabdjijlmiobhaa.G Go.Proofs.Ytabdjijlmiobhaa.P0
open Go.RowKit Go.Proofs.YtabdjijlmiobhaaW.PrintWords Go.Proofs.YtabdjijlmiobhaaW.PrintLast Go.Proofs.YtabdjijlmiobhaaW.PrintMore
attribute [local go_sem] max2_int min2_int max_two min_two max_three min_three max_four min_four   -- for this text's walks alone
set_option linter.unusedVariables false
set_option linter.unusedSimpArgs false

/-! ### wainwrightlaw00_Word: function 31 -/
def wainwrightlaw00_Word.f (a0 : Int) : Option (ByteArray) := (wainwrightlaw00_Place.f a0 16).bind fun t170 => (if 0 ≤ t170 then (if t170 < 16 then (some (rdOf ByteArray.empty ([(⟨#[97]⟩ : ByteArray), (⟨#[98]⟩ : ByteArray), (⟨#[99]⟩ : ByteArray), (⟨#[97, 46, 99]⟩ : ByteArray), (⟨#[98, 46, 99]⟩ : ByteArray), (⟨#[120, 46, 111]⟩ : ByteArray), (⟨#[100, 105, 114, 47, 97, 46, 99]⟩ : ByteArray), (⟨#[46, 46, 47, 117, 112]⟩ : ByteArray), (⟨#[50]⟩ : ByteArray), (⟨#[45, 49]⟩ : ByteArray), (⟨#[102, 111, 111]⟩ : ByteArray), (⟨#[102, 111, 111, 46, 98, 97, 114, 46, 99]⟩ : ByteArray), (⟨#[108, 105, 98, 37]⟩ : ByteArray), (⟨#[97, 37, 98]⟩ : ByteArray), (⟨#[49, 48]⟩ : ByteArray), (⟨#[122]⟩ : ByteArray)] : List ByteArray) t170)) else (none)) else (none))
theorem wainwrightlaw00_Word.ix0 : ∀ m_ : Nat, m_ < 16 → ∀ w_, (Instr.index 81 (.agg #[.string (⟨#[97]⟩ : ByteArray), .string (⟨#[98]⟩ : ByteArray), .string (⟨#[99]⟩ : ByteArray), .string (⟨#[97, 46, 99]⟩ : ByteArray), .string (⟨#[98, 46, 99]⟩ : ByteArray), .string (⟨#[120, 46, 111]⟩ : ByteArray), .string (⟨#[100, 105, 114, 47, 97, 46, 99]⟩ : ByteArray), .string (⟨#[46, 46, 47, 117, 112]⟩ : ByteArray), .string (⟨#[50]⟩ : ByteArray), .string (⟨#[45, 49]⟩ : ByteArray), .string (⟨#[102, 111, 111]⟩ : ByteArray), .string (⟨#[102, 111, 111, 46, 98, 97, 114, 46, 99]⟩ : ByteArray), .string (⟨#[108, 105, 98, 37]⟩ : ByteArray), .string (⟨#[97, 37, 98]⟩ : ByteArray), .string (⟨#[49, 48]⟩ : ByteArray), .string (⟨#[122]⟩ : ByteArray)]) (.int .i64 (m_ : Int))).run Try.prog w_ = .ok (.string (rdOf ByteArray.empty ([(⟨#[97]⟩ : ByteArray), (⟨#[98]⟩ : ByteArray), (⟨#[99]⟩ : ByteArray), (⟨#[97, 46, 99]⟩ : ByteArray), (⟨#[98, 46, 99]⟩ : ByteArray), (⟨#[120, 46, 111]⟩ : ByteArray), (⟨#[100, 105, 114, 47, 97, 46, 99]⟩ : ByteArray), (⟨#[46, 46, 47, 117, 112]⟩ : ByteArray), (⟨#[50]⟩ : ByteArray), (⟨#[45, 49]⟩ : ByteArray), (⟨#[102, 111, 111]⟩ : ByteArray), (⟨#[102, 111, 111, 46, 98, 97, 114, 46, 99]⟩ : ByteArray), (⟨#[108, 105, 98, 37]⟩ : ByteArray), (⟨#[97, 37, 98]⟩ : ByteArray), (⟨#[49, 48]⟩ : ByteArray), (⟨#[122]⟩ : ByteArray)] : List ByteArray) (m_ : Int))) w_
  | 0, _, _ => by kernel_rfl
  | 1, _, _ => by kernel_rfl
  | 2, _, _ => by kernel_rfl
  | 3, _, _ => by kernel_rfl
  | 4, _, _ => by kernel_rfl
  | 5, _, _ => by kernel_rfl
  | 6, _, _ => by kernel_rfl
  | 7, _, _ => by kernel_rfl
  | 8, _, _ => by kernel_rfl
  | 9, _, _ => by kernel_rfl
  | 10, _, _ => by kernel_rfl
  | 11, _, _ => by kernel_rfl
  | 12, _, _ => by kernel_rfl
  | 13, _, _ => by kernel_rfl
  | 14, _, _ => by kernel_rfl
  | 15, _, _ => by kernel_rfl
  | m2_ + 16, h2_, _ => absurd h2_ (by omega)
set_option maxHeartbeats 8000000 in
set_option maxRecDepth 100000 in
theorem wainwrightlaw00_Word.calls (a0 : Int) (r : ByteArray) (w : World) (h : wainwrightlaw00_Word.f a0 = some r) :
    Calls Try.prog 31 #[.int .i64 a0] w fun e w' => e = .returned (.string r) ∧ Drawn0 w w' := by
  have H : ((wainwrightlaw00_Place.f a0 16).bind fun t170 => (if 0 ≤ t170 then (if t170 < 16 then (some (rdOf ByteArray.empty ([(⟨#[97]⟩ : ByteArray), (⟨#[98]⟩ : ByteArray), (⟨#[99]⟩ : ByteArray), (⟨#[97, 46, 99]⟩ : ByteArray), (⟨#[98, 46, 99]⟩ : ByteArray), (⟨#[120, 46, 111]⟩ : ByteArray), (⟨#[100, 105, 114, 47, 97, 46, 99]⟩ : ByteArray), (⟨#[46, 46, 47, 117, 112]⟩ : ByteArray), (⟨#[50]⟩ : ByteArray), (⟨#[45, 49]⟩ : ByteArray), (⟨#[102, 111, 111]⟩ : ByteArray), (⟨#[102, 111, 111, 46, 98, 97, 114, 46, 99]⟩ : ByteArray), (⟨#[108, 105, 98, 37]⟩ : ByteArray), (⟨#[97, 37, 98]⟩ : ByteArray), (⟨#[49, 48]⟩ : ByteArray), (⟨#[122]⟩ : ByteArray)] : List ByteArray) t170)) else (none)) else (none))) = some r := h
  clear h
  replace H := Option.bind_eq_some_iff.mp H
  obtain ⟨t170, A20, H⟩ := H
  replace H : (if 0 ≤ t170 then (if t170 < 16 then (some (rdOf ByteArray.empty ([(⟨#[97]⟩ : ByteArray), (⟨#[98]⟩ : ByteArray), (⟨#[99]⟩ : ByteArray), (⟨#[97, 46, 99]⟩ : ByteArray), (⟨#[98, 46, 99]⟩ : ByteArray), (⟨#[120, 46, 111]⟩ : ByteArray), (⟨#[100, 105, 114, 47, 97, 46, 99]⟩ : ByteArray), (⟨#[46, 46, 47, 117, 112]⟩ : ByteArray), (⟨#[50]⟩ : ByteArray), (⟨#[45, 49]⟩ : ByteArray), (⟨#[102, 111, 111]⟩ : ByteArray), (⟨#[102, 111, 111, 46, 98, 97, 114, 46, 99]⟩ : ByteArray), (⟨#[108, 105, 98, 37]⟩ : ByteArray), (⟨#[97, 37, 98]⟩ : ByteArray), (⟨#[49, 48]⟩ : ByteArray), (⟨#[122]⟩ : ByteArray)] : List ByteArray) t170)) else (none)) else (none)) = some r := H
  have A2 := Aside0.mk A20
  clear A20
  by_cases c3 : 0 ≤ t170
  · rw [if_pos c3] at H
    have c3b0 : decide (0 ≤ t170) = true := decide_eq_true c3
    clear c3
    by_cases c4 : t170 < 16
    · rw [if_pos c4] at H
      have c4b0 : decide (t170 < 16) = true := decide_eq_true c4
      clear c4
      obtain rfl := Option.some.inj H
      go_enter Try.func31, Try.ntmps31
      go_wp2_with (first | ((with_reducible refine gate_callee (f := 16) rfl ?_); refine goesL_ (some 5) rfl rfl Try.func16 (by kernel_rfl) rfl #[.int .i64 a0, .int .i64 16] rfl (by (try simp only [List.map_toArray, List.map_cons, List.map_nil]); first | done | rfl | (simp only [List.length_drop, List.length_take]; rfl)) ?_; (with_reducible refine (wainwrightlaw00_Place.calls a0 16 t170 _ A2.out).mono ?_); rintro e w' ⟨rfl, ⟨nd, rfl⟩⟩; refine ⟨_, rfl, ?_⟩; have p5 : 0 ≤ (t170 : Int) := of_decide_eq_true (by first | (with_reducible assumption) | assumption); have q5 : (t170 : Int) < 16 := of_decide_eq_true (by first | (with_reducible assumption) | assumption); have hx5 : ∀ w_, (Instr.index 81 (.agg #[.string (⟨#[97]⟩ : ByteArray), .string (⟨#[98]⟩ : ByteArray), .string (⟨#[99]⟩ : ByteArray), .string (⟨#[97, 46, 99]⟩ : ByteArray), .string (⟨#[98, 46, 99]⟩ : ByteArray), .string (⟨#[120, 46, 111]⟩ : ByteArray), .string (⟨#[100, 105, 114, 47, 97, 46, 99]⟩ : ByteArray), .string (⟨#[46, 46, 47, 117, 112]⟩ : ByteArray), .string (⟨#[50]⟩ : ByteArray), .string (⟨#[45, 49]⟩ : ByteArray), .string (⟨#[102, 111, 111]⟩ : ByteArray), .string (⟨#[102, 111, 111, 46, 98, 97, 114, 46, 99]⟩ : ByteArray), .string (⟨#[108, 105, 98, 37]⟩ : ByteArray), .string (⟨#[97, 37, 98]⟩ : ByteArray), .string (⟨#[49, 48]⟩ : ByteArray), .string (⟨#[122]⟩ : ByteArray)]) (.int .i64 t170)).run Try.prog w_ = .ok (.string (rdOf ByteArray.empty ([(⟨#[97]⟩ : ByteArray), (⟨#[98]⟩ : ByteArray), (⟨#[99]⟩ : ByteArray), (⟨#[97, 46, 99]⟩ : ByteArray), (⟨#[98, 46, 99]⟩ : ByteArray), (⟨#[120, 46, 111]⟩ : ByteArray), (⟨#[100, 105, 114, 47, 97, 46, 99]⟩ : ByteArray), (⟨#[46, 46, 47, 117, 112]⟩ : ByteArray), (⟨#[50]⟩ : ByteArray), (⟨#[45, 49]⟩ : ByteArray), (⟨#[102, 111, 111]⟩ : ByteArray), (⟨#[102, 111, 111, 46, 98, 97, 114, 46, 99]⟩ : ByteArray), (⟨#[108, 105, 98, 37]⟩ : ByteArray), (⟨#[97, 37, 98]⟩ : ByteArray), (⟨#[49, 48]⟩ : ByteArray), (⟨#[122]⟩ : ByteArray)] : List ByteArray) t170)) w_ := (by intro w_; obtain ⟨m_, em_⟩ := Int.eq_ofNat_of_zero_le p5; rw [em_] at q5 ⊢; exact wainwrightlaw00_Word.ix0 m_ (by omega) w_); clear p5 q5))
      go_ret
      exact ⟨by first | rfl | (simp; done) | (simp [*]; done), by repeat (first | exact Drawn0.refl _ | apply Drawn0.step)⟩
    · rw [if_neg c4] at H
      exact absurd H (by simp)
  · rw [if_neg c3] at H
    exact absurd H (by simp)

end Go.Proofs.Ytabdjijlmiobhaa.P
