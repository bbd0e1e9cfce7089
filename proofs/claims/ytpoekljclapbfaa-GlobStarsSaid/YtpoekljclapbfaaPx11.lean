-- Written by a program of this session (wip/tools) out of the translation, over the kit's print. Not trusted: Lean checks it.
import Derived.Test.YtpoekljclapbfaaPx0
import Derived.Test.YtpoekljclapbfaaPx6
import Derived.Test.YtpoekljclapbfaaPx7
import Derived.Test.YtpoekljclapbfaaPx8
namespace Go.Proofs.Ytpoekljclapbfaa.G
end Go.Proofs.Ytpoekljclapbfaa.G
namespace Go.Proofs.Ytpoekljclapbfaa.P0
end Go.Proofs.Ytpoekljclapbfaa.P0
namespace Go.Proofs.Ytpoekljclapbfaa.P
open Go.Proofs.Ytpoekljclapbfaa.G Go.Proofs.Ytpoekljclapbfaa.P0
open Go.RowKit Go.Proofs.YtpoekljclapbfaaW.PrintWords Go.Proofs.YtpoekljclapbfaaW.PrintLast Go.Proofs.YtpoekljclapbfaaW.PrintMore
attribute [local go_sem] max2_int min2_int max_two min_two max_three min_three max_four min_four   -- for this text's walks alone
set_option linter.unusedVariables false
set_option linter.unusedSimpArgs false

/-! ### wainwrightlaw03_GlobStars: function 5 -/
mutual
def wainwrightlaw03_GlobStars.l0 : Nat → List Int → Int → Int → ByteArray → ByteArray → Bool → Int → Option (Bool)
  | 0, _, _, _, _, _, _, _ => none
  | k + 1, x2, x7, x8, x9, x10, x11, x12 => if x12 < x7 then (if x12 < (x2.length : Int) then (if 0 ≤ x12 then ((wainwrightlaw00_Place.f (rd x2 x12) 2).bind fun t145 => (if t145 = 0 then (if x9.size + 1 ≤ 9223372036854775807 then (if 0 ≤ (Int.tmod x12 2) then (if (Int.tmod x12 2) < 2 then (if (x9 ++ (⟨#[42]⟩ : ByteArray)).size + (rdOf ByteArray.empty ([(⟨#[97]⟩ : ByteArray), (⟨#[63]⟩ : ByteArray)] : List ByteArray) (Int.tmod x12 2)).size ≤ 9223372036854775807 then (wainwrightlaw03_GlobStars.l0 k x2 x7 x8 ((x9 ++ (⟨#[42]⟩ : ByteArray)) ++ (rdOf ByteArray.empty ([(⟨#[97]⟩ : ByteArray), (⟨#[63]⟩ : ByteArray)] : List ByteArray) (Int.tmod x12 2))) x10 true (wrap64 (x12 + 1))) else (none)) else (none)) else (none)) else (none)) else (if 0 ≤ (Int.tmod x12 2) then (if (Int.tmod x12 2) < 2 then (if x9.size + (rdOf ByteArray.empty ([(⟨#[97]⟩ : ByteArray), (⟨#[63]⟩ : ByteArray)] : List ByteArray) (Int.tmod x12 2)).size ≤ 9223372036854775807 then (wainwrightlaw03_GlobStars.l0 k x2 x7 x8 (x9 ++ (rdOf ByteArray.empty ([(⟨#[97]⟩ : ByteArray), (⟨#[63]⟩ : ByteArray)] : List ByteArray) (Int.tmod x12 2))) x10 x11 (wrap64 (x12 + 1))) else (none)) else (none)) else (none)))) else (none)) else (if 0 ≤ (Int.tmod x12 2) then (if (Int.tmod x12 2) < 2 then (if x9.size + (rdOf ByteArray.empty ([(⟨#[97]⟩ : ByteArray), (⟨#[63]⟩ : ByteArray)] : List ByteArray) (Int.tmod x12 2)).size ≤ 9223372036854775807 then (wainwrightlaw03_GlobStars.l0 k x2 x7 x8 (x9 ++ (rdOf ByteArray.empty ([(⟨#[97]⟩ : ByteArray), (⟨#[63]⟩ : ByteArray)] : List ByteArray) (Int.tmod x12 2))) x10 x11 (wrap64 (x12 + 1))) else (none)) else (none)) else (none))) else (if x7 < (x2.length : Int) then (if 0 ≤ x7 then ((wainwrightlaw00_Place.f (rd x2 x7) 2).bind fun t147 => (wainwrightlaw03_GlobStars.j1 k x7 x8 x9 x10 x11 (t147 == 0))) else (none)) else (wainwrightlaw03_GlobStars.j1 k x7 x8 x9 x10 x11 false))
def wainwrightlaw03_GlobStars.j1 : Nat → Int → Int → ByteArray → ByteArray → Bool → Bool → Option (Bool)
  | 0, _, _, _, _, _, _ => none
  | k + 1, x7, x8, x9, x10, x11, x54 => if x54 = true then (if x9.size + 1 ≤ 9223372036854775807 then (wainwrightlaw03_GlobStars.j2 k x7 x8 (x9 ++ (⟨#[42]⟩ : ByteArray)) x10 true) else (none)) else (wainwrightlaw03_GlobStars.j2 k x7 x8 x9 x10 x11)
def wainwrightlaw03_GlobStars.j2 : Nat → Int → Int → ByteArray → ByteArray → Bool → Option (Bool)
  | 0, _, _, _, _, _ => none
  | k + 1, x7, x8, x9, x10, x11 => wainwrightlaw03_GlobStars.l1 k x7 x8 x9 x10 x11 0
def wainwrightlaw03_GlobStars.l1 : Nat → Int → Int → ByteArray → ByteArray → Bool → Int → Option (Bool)
  | 0, _, _, _, _, _, _ => none
  | k + 1, x7, x8, x9, x10, x11, x13 => if x13 < x8 then (if x10.size + 1 ≤ 9223372036854775807 then (wainwrightlaw03_GlobStars.l1 k x7 x8 x9 (x10 ++ (⟨#[97]⟩ : ByteArray)) x11 (wrap64 (x13 + 1))) else (none)) else ((glob_Match.f k x9 x10).bind fun t148 => (if x8 = x7 then (if (t148 == true) = true then ((glob_Magic.f k x9).bind fun t149 => (if x11 = true then (if (t149 == true) = true then ((wainwrightlaw03_awake.f k).bind fun t150 => (some t150)) else (some false)) else (if (t149 == (decide (x7 > 1))) = true then ((wainwrightlaw03_awake.f k).bind fun t151 => (some t151)) else (some false)))) else (some false)) else (if x8 > x7 then (if (t148 == x11) = true then ((glob_Magic.f k x9).bind fun t152 => (if x11 = true then (if (t152 == true) = true then ((wainwrightlaw03_awake.f k).bind fun t153 => (some t153)) else (some false)) else (if (t152 == (decide (x7 > 1))) = true then ((wainwrightlaw03_awake.f k).bind fun t154 => (some t154)) else (some false)))) else (some false)) else (if (t148 == false) = true then ((glob_Magic.f k x9).bind fun t155 => (if x11 = true then (if (t155 == true) = true then ((wainwrightlaw03_awake.f k).bind fun t156 => (some t156)) else (some false)) else (if (t155 == (decide (x7 > 1))) = true then ((wainwrightlaw03_awake.f k).bind fun t157 => (some t157)) else (some false)))) else (some false)))))
end
def wainwrightlaw03_GlobStars.f (k : Nat) (a0 : Int) (a1 : Int) (l2 : List Int) : Option (Bool) := (wainwrightlaw00_Place.f a0 15).bind fun t142 => ((wainwrightlaw00_Place.f a1 20).bind fun t143 => (wainwrightlaw03_GlobStars.l0 k l2 t142 t143 (⟨#[]⟩ : ByteArray) (⟨#[]⟩ : ByteArray) false 0))
theorem wainwrightlaw03_GlobStars.mono_l : ∀ k, (∀ y0 y1 y2 y3 y4 y5 y6, LeO (wainwrightlaw03_GlobStars.l0 k y0 y1 y2 y3 y4 y5 y6) (wainwrightlaw03_GlobStars.l0 (k + 1) y0 y1 y2 y3 y4 y5 y6)) ∧ (∀ y0 y1 y2 y3 y4 y5, LeO (wainwrightlaw03_GlobStars.j1 k y0 y1 y2 y3 y4 y5) (wainwrightlaw03_GlobStars.j1 (k + 1) y0 y1 y2 y3 y4 y5)) ∧ (∀ y0 y1 y2 y3 y4, LeO (wainwrightlaw03_GlobStars.j2 k y0 y1 y2 y3 y4) (wainwrightlaw03_GlobStars.j2 (k + 1) y0 y1 y2 y3 y4)) ∧ (∀ y0 y1 y2 y3 y4 y5, LeO (wainwrightlaw03_GlobStars.l1 k y0 y1 y2 y3 y4 y5) (wainwrightlaw03_GlobStars.l1 (k + 1) y0 y1 y2 y3 y4 y5))
  | 0 => ⟨fun _ _ _ _ _ _ _ r h => by simp [wainwrightlaw03_GlobStars.l0] at h, fun _ _ _ _ _ _ r h => by simp [wainwrightlaw03_GlobStars.j1] at h, fun _ _ _ _ _ r h => by simp [wainwrightlaw03_GlobStars.j2] at h, fun _ _ _ _ _ _ r h => by simp [wainwrightlaw03_GlobStars.l1] at h⟩
  | k + 1 => by
    obtain ⟨ih0, ih1, ih2, ih3⟩ := wainwrightlaw03_GlobStars.mono_l k
    refine ⟨?_, ?_, ?_, ?_⟩
    · intro y0 y1 y2 y3 y4 y5 y6
      unfold wainwrightlaw03_GlobStars.l0
      repeat' first
      | (with_reducible exact ih0 _ _ _ _ _ _ _)
      | (with_reducible exact ih1 _ _ _ _ _ _)
      | (with_reducible exact ih2 _ _ _ _ _)
      | (with_reducible exact ih3 _ _ _ _ _ _)
      | (with_reducible exact glob_Magic.mono _ _)
      | (with_reducible exact glob_Match.mono _ _ _)
      | (with_reducible exact wainwrightlaw03_awake.mono _)
      | (with_reducible exact LeO.refl _)
      | (with_reducible exact LeO.none _)
      | (with_reducible refine LeO.ite ?_ ?_)
      | (with_reducible refine LeO.bind ?_ (fun _ => ?_))
      | exact ih0 _ _ _ _ _ _ _
      | exact ih1 _ _ _ _ _ _
      | exact ih2 _ _ _ _ _
      | exact ih3 _ _ _ _ _ _
      | exact glob_Magic.mono _ _
      | exact glob_Match.mono _ _ _
      | exact wainwrightlaw03_awake.mono _
      | exact LeO.none _
      | refine LeO.ite ?_ ?_
      | refine LeO.bind ?_ (fun _ => ?_)
    · intro y0 y1 y2 y3 y4 y5
      unfold wainwrightlaw03_GlobStars.j1
      repeat' first
      | (with_reducible exact ih0 _ _ _ _ _ _ _)
      | (with_reducible exact ih1 _ _ _ _ _ _)
      | (with_reducible exact ih2 _ _ _ _ _)
      | (with_reducible exact ih3 _ _ _ _ _ _)
      | (with_reducible exact glob_Magic.mono _ _)
      | (with_reducible exact glob_Match.mono _ _ _)
      | (with_reducible exact wainwrightlaw03_awake.mono _)
      | (with_reducible exact LeO.refl _)
      | (with_reducible exact LeO.none _)
      | (with_reducible refine LeO.ite ?_ ?_)
      | (with_reducible refine LeO.bind ?_ (fun _ => ?_))
      | exact ih0 _ _ _ _ _ _ _
      | exact ih1 _ _ _ _ _ _
      | exact ih2 _ _ _ _ _
      | exact ih3 _ _ _ _ _ _
      | exact glob_Magic.mono _ _
      | exact glob_Match.mono _ _ _
      | exact wainwrightlaw03_awake.mono _
      | exact LeO.none _
      | refine LeO.ite ?_ ?_
      | refine LeO.bind ?_ (fun _ => ?_)
    · intro y0 y1 y2 y3 y4
      unfold wainwrightlaw03_GlobStars.j2
      repeat' first
      | (with_reducible exact ih0 _ _ _ _ _ _ _)
      | (with_reducible exact ih1 _ _ _ _ _ _)
      | (with_reducible exact ih2 _ _ _ _ _)
      | (with_reducible exact ih3 _ _ _ _ _ _)
      | (with_reducible exact glob_Magic.mono _ _)
      | (with_reducible exact glob_Match.mono _ _ _)
      | (with_reducible exact wainwrightlaw03_awake.mono _)
      | (with_reducible exact LeO.refl _)
      | (with_reducible exact LeO.none _)
      | (with_reducible refine LeO.ite ?_ ?_)
      | (with_reducible refine LeO.bind ?_ (fun _ => ?_))
      | exact ih0 _ _ _ _ _ _ _
      | exact ih1 _ _ _ _ _ _
      | exact ih2 _ _ _ _ _
      | exact ih3 _ _ _ _ _ _
      | exact glob_Magic.mono _ _
      | exact glob_Match.mono _ _ _
      | exact wainwrightlaw03_awake.mono _
      | exact LeO.none _
      | refine LeO.ite ?_ ?_
      | refine LeO.bind ?_ (fun _ => ?_)
    · intro y0 y1 y2 y3 y4 y5
      unfold wainwrightlaw03_GlobStars.l1
      repeat' first
      | (with_reducible exact ih0 _ _ _ _ _ _ _)
      | (with_reducible exact ih1 _ _ _ _ _ _)
      | (with_reducible exact ih2 _ _ _ _ _)
      | (with_reducible exact ih3 _ _ _ _ _ _)
      | (with_reducible exact glob_Magic.mono _ _)
      | (with_reducible exact glob_Match.mono _ _ _)
      | (with_reducible exact wainwrightlaw03_awake.mono _)
      | (with_reducible exact LeO.refl _)
      | (with_reducible exact LeO.none _)
      | (with_reducible refine LeO.ite ?_ ?_)
      | (with_reducible refine LeO.bind ?_ (fun _ => ?_))
      | exact ih0 _ _ _ _ _ _ _
      | exact ih1 _ _ _ _ _ _
      | exact ih2 _ _ _ _ _
      | exact ih3 _ _ _ _ _ _
      | exact glob_Magic.mono _ _
      | exact glob_Match.mono _ _ _
      | exact wainwrightlaw03_awake.mono _
      | exact LeO.none _
      | refine LeO.ite ?_ ?_
      | refine LeO.bind ?_ (fun _ => ?_)
theorem wainwrightlaw03_GlobStars.mono : ∀ a0 a1 a2 k, LeO (wainwrightlaw03_GlobStars.f k a0 a1 a2) (wainwrightlaw03_GlobStars.f (k + 1) a0 a1 a2) := by
  intro a0 a1 a2 k
  obtain ⟨ih0, ih1, ih2, ih3⟩ := wainwrightlaw03_GlobStars.mono_l k
  unfold wainwrightlaw03_GlobStars.f
  repeat' first
      | (with_reducible exact ih0 _ _ _ _ _ _ _)
      | (with_reducible exact ih1 _ _ _ _ _ _)
      | (with_reducible exact ih2 _ _ _ _ _)
      | (with_reducible exact ih3 _ _ _ _ _ _)
      | (with_reducible exact glob_Magic.mono _ _)
      | (with_reducible exact glob_Match.mono _ _ _)
      | (with_reducible exact wainwrightlaw03_awake.mono _)
      | (with_reducible exact LeO.refl _)
      | (with_reducible exact LeO.none _)
      | (with_reducible refine LeO.ite ?_ ?_)
      | (with_reducible refine LeO.bind ?_ (fun _ => ?_))
      | exact ih0 _ _ _ _ _ _ _
      | exact ih1 _ _ _ _ _ _
      | exact ih2 _ _ _ _ _
      | exact ih3 _ _ _ _ _ _
      | exact glob_Magic.mono _ _
      | exact glob_Match.mono _ _ _
      | exact wainwrightlaw03_awake.mono _
      | exact LeO.none _
      | refine LeO.ite ?_ ?_
      | refine LeO.bind ?_ (fun _ => ?_)
theorem wainwrightlaw03_GlobStars.ix0 : ∀ m_ : Nat, m_ < 2 → ∀ w_, (Instr.index 33 (.agg #[.string (⟨#[97]⟩ : ByteArray), .string (⟨#[63]⟩ : ByteArray)]) (.int .i64 (m_ : Int))).run Try.prog w_ = .ok (.string (rdOf ByteArray.empty ([(⟨#[97]⟩ : ByteArray), (⟨#[63]⟩ : ByteArray)] : List ByteArray) (m_ : Int))) w_
  | 0, _, _ => by kernel_rfl
  | 1, _, _ => by kernel_rfl
  | m2_ + 2, h2_, _ => absurd h2_ (by omega)
set_option maxHeartbeats 8000000 in
set_option maxRecDepth 100000 in
theorem wainwrightlaw03_GlobStars.calls (k : Nat) (a0 : Int) (a1 : Int) (A2 : Option Addr) (c2 : Nat) (l2 : List Int) (r : Bool) (hr_ : Hid (r = true)) (w : World) (hr2 : Kd.C (Kd.int .i64) w A2 l2.length l2) (hc2 : l2.length ≤ c2) (h : wainwrightlaw03_GlobStars.f k a0 a1 l2 = some r) :
    Calls Try.prog 5 #[.int .i64 a0, .int .i64 a1, .slice A2 l2.length c2] w fun e w' => e = .returned (.bool r) ∧ Below w.heap.size w w' := by
  have HR2 := Aside0.mk hr2
  have HC2 := Aside0.mk hc2
  clear hr2 hc2
  have HB := Aside0.mk (Below.refl w.heap.size w)
  have H : ((wainwrightlaw00_Place.f a0 15).bind fun t142 => ((wainwrightlaw00_Place.f a1 20).bind fun t143 => (wainwrightlaw03_GlobStars.l0 k l2 t142 t143 (⟨#[]⟩ : ByteArray) (⟨#[]⟩ : ByteArray) false 0))) = some r := h
  clear h
  replace H := Option.bind_eq_some_iff.mp H
  obtain ⟨t142, A40, H⟩ := H
  replace H : ((wainwrightlaw00_Place.f a1 20).bind fun t143 => (wainwrightlaw03_GlobStars.l0 k l2 t142 t143 (⟨#[]⟩ : ByteArray) (⟨#[]⟩ : ByteArray) false 0)) = some r := H
  have A4 := Aside0.mk A40
  clear A40
  replace H := Option.bind_eq_some_iff.mp H
  obtain ⟨t143, A50, H⟩ := H
  replace H : (wainwrightlaw03_GlobStars.l0 k l2 t142 t143 (⟨#[]⟩ : ByteArray) (⟨#[]⟩ : ByteArray) false 0) = some r := H
  have A5 := Aside0.mk A50
  clear A50
  have H' := Aside0.mk H
  clear H
  go_enter Try.func5, Try.ntmps5
  go_wp2_with (first | ((with_reducible refine gate_callee (f := 7) rfl ?_); refine goesL_ (some 15) rfl rfl Try.func7 (by kernel_rfl) rfl #[.int .i64 a0, .int .i64 15] rfl (by (try simp only [List.map_toArray, List.map_cons, List.map_nil]); first | done | rfl | (simp only [List.length_drop, List.length_take]; rfl)) ?_; (with_reducible refine (wainwrightlaw00_Place.calls a0 15 t142 _ A4.out).mono ?_); rintro e w' ⟨rfl, ⟨nd, rfl⟩⟩; refine ⟨_, rfl, ?_⟩) | ((with_reducible refine gate_callee (f := 7) rfl ?_); refine goesL_ (some 17) rfl rfl Try.func7 (by kernel_rfl) rfl #[.int .i64 a1, .int .i64 20] rfl (by (try simp only [List.map_toArray, List.map_cons, List.map_nil]); first | done | rfl | (simp only [List.length_drop, List.length_take]; rfl)) ?_; (with_reducible refine (wainwrightlaw00_Place.calls a1 20 t143 _ A5.out).mono ?_); rintro e w' ⟨rfl, ⟨nd, rfl⟩⟩; refine ⟨_, rfl, ?_⟩))
  go_loopg [9, 11, 12] k (fun kq v9 v11 v12 w' => ∃ (x9_1 : ByteArray) (x11_1 : Bool) (x12_1 : Int), v9 = .string x9_1 ∧ v11 = .bool x11_1 ∧ v12 = .int .i64 x12_1 ∧ Aside0 (wainwrightlaw03_GlobStars.l0 kq l2 t142 t143 x9_1 (⟨#[]⟩ : ByteArray) x11_1 x12_1 = some r) ∧ Aside0 (kq ≤ k) ∧ Aside0 (Below w.heap.size w w'))
  case atStart => exact ⟨((⟨#[]⟩ : ByteArray)), (false), (0), (by first | rfl | (simp; done) | (simp [wrap64]; done) | (simp [*]; done)), (by first | rfl | (simp; done) | (simp [wrap64]; done) | (simp [*]; done)), (by first | rfl | (simp; done) | (simp [wrap64]; done) | (simp [*]; done)), H', ⟨Nat.le_refl _⟩, ⟨by repeat (first | (with_reducible first | exact HB.out | apply below_alloc | apply pw_below_drewN | apply below_drew1) | exact HB.out)⟩⟩
  case round =>
    clear H'
    try clear c2
    try clear p2
    try clear c5
    obtain ⟨x9_1, x11_1, x12_1, rfl, rfl, rfl, HA, HK1, HB⟩ := hrel
    cases gk with
    | zero => exact absurd HA.out (by simp [wainwrightlaw03_GlobStars.l0])
    | succ k1 =>
      have H := HA.out
      clear HA
      simp only [wainwrightlaw03_GlobStars.l0] at H
      by_cases c6 : x12_1 < t142
      · rw [if_pos c6] at H
        have c6b0 : decide (x12_1 < t142) = true := decide_eq_true c6
        clear c6
        by_cases c7 : x12_1 < (l2.length : Int)
        · rw [if_pos c7] at H
          have c7b0 : decide (x12_1 < (l2.length : Int)) = true := decide_eq_true c7
          clear c7
          by_cases c8 : 0 ≤ x12_1
          · rw [if_pos c8] at H
            have c8b0 : decide (0 ≤ x12_1) = true := decide_eq_true c8
            clear c8
            replace H := Option.bind_eq_some_iff.mp H
            obtain ⟨t145, A90, H⟩ := H
            replace H : (if t145 = 0 then (if x9_1.size + 1 ≤ 9223372036854775807 then (if 0 ≤ (Int.tmod x12_1 2) then (if (Int.tmod x12_1 2) < 2 then (if (x9_1 ++ (⟨#[42]⟩ : ByteArray)).size + (rdOf ByteArray.empty ([(⟨#[97]⟩ : ByteArray), (⟨#[63]⟩ : ByteArray)] : List ByteArray) (Int.tmod x12_1 2)).size ≤ 9223372036854775807 then (wainwrightlaw03_GlobStars.l0 k1 l2 t142 t143 ((x9_1 ++ (⟨#[42]⟩ : ByteArray)) ++ (rdOf ByteArray.empty ([(⟨#[97]⟩ : ByteArray), (⟨#[63]⟩ : ByteArray)] : List ByteArray) (Int.tmod x12_1 2))) (⟨#[]⟩ : ByteArray) true (wrap64 (x12_1 + 1))) else (none)) else (none)) else (none)) else (none)) else (if 0 ≤ (Int.tmod x12_1 2) then (if (Int.tmod x12_1 2) < 2 then (if x9_1.size + (rdOf ByteArray.empty ([(⟨#[97]⟩ : ByteArray), (⟨#[63]⟩ : ByteArray)] : List ByteArray) (Int.tmod x12_1 2)).size ≤ 9223372036854775807 then (wainwrightlaw03_GlobStars.l0 k1 l2 t142 t143 (x9_1 ++ (rdOf ByteArray.empty ([(⟨#[97]⟩ : ByteArray), (⟨#[63]⟩ : ByteArray)] : List ByteArray) (Int.tmod x12_1 2))) (⟨#[]⟩ : ByteArray) x11_1 (wrap64 (x12_1 + 1))) else (none)) else (none)) else (none))) = some r := H
            have A9 := Aside0.mk A90
            clear A90
            by_cases c10 : t145 = 0
            · rw [if_pos c10] at H
              have c10b0 : (t145 == 0) = true := beq_iff_eq.mpr c10
              have c10b1 : (t145 != 0) = false := bne_eq_false_iff_eq.mpr c10
              clear c10
              by_cases c11 : x9_1.size + 1 ≤ 9223372036854775807
              · rw [if_pos c11] at H
                have c11b0 := eq_true c11
                have c11b1 : decide (x9_1.size + 1 ≤ 9223372036854775807) = true := decide_eq_true c11
                try have c11b2 : (9223372036854775807 < x9_1.size + 1) = False := eq_false (Nat.not_lt.2 c11)
                obtain ⟨ji12, hji12⟩ : ∃ j_ : Int, (Int.tmod x12_1 2) = j_ := ⟨_, rfl⟩
                replace H : (if 0 ≤ (ji12) then (if (ji12) < 2 then (if (x9_1 ++ (⟨#[42]⟩ : ByteArray)).size + (rdOf ByteArray.empty ([(⟨#[97]⟩ : ByteArray), (⟨#[63]⟩ : ByteArray)] : List ByteArray) (ji12)).size ≤ 9223372036854775807 then (wainwrightlaw03_GlobStars.l0 k1 l2 t142 t143 ((x9_1 ++ (⟨#[42]⟩ : ByteArray)) ++ (rdOf ByteArray.empty ([(⟨#[97]⟩ : ByteArray), (⟨#[63]⟩ : ByteArray)] : List ByteArray) (ji12))) (⟨#[]⟩ : ByteArray) true (wrap64 (x12_1 + 1))) else (none)) else (none)) else (none)) = some r := by first | (rw [hji12] at H; exact H) | (simp only [hji12] at H ⊢; exact H) | exact H
                (try rw [hji12] at A9)
                by_cases c13 : 0 ≤ (ji12)
                · rw [if_pos c13] at H
                  have c13b0 : decide (0 ≤ (ji12)) = true := decide_eq_true c13
                  clear c13
                  by_cases c14 : (ji12) < 2
                  · rw [if_pos c14] at H
                    have c14b0 : decide ((ji12) < 2) = true := decide_eq_true c14
                    clear c14
                    by_cases c16 : (x9_1 ++ (⟨#[42]⟩ : ByteArray)).size + (rdOf ByteArray.empty ([(⟨#[97]⟩ : ByteArray), (⟨#[63]⟩ : ByteArray)] : List ByteArray) (ji12)).size ≤ 9223372036854775807
                    · rw [if_pos c16] at H
                      have c16b0 := eq_true c16
                      have c16b1 : decide ((x9_1 ++ (⟨#[42]⟩ : ByteArray)).size + (rdOf ByteArray.empty ([(⟨#[97]⟩ : ByteArray), (⟨#[63]⟩ : ByteArray)] : List ByteArray) (ji12)).size ≤ 9223372036854775807) = true := decide_eq_true c16
                      try have c16b2 : (9223372036854775807 < (x9_1 ++ (⟨#[42]⟩ : ByteArray)).size + (rdOf ByteArray.empty ([(⟨#[97]⟩ : ByteArray), (⟨#[63]⟩ : ByteArray)] : List ByteArray) (ji12)).size) = False := eq_false (Nat.not_lt.2 c16)
                      have H' := Aside0.mk H
                      clear H
                      have p144 : 0 ≤ (x12_1 : Int) := of_decide_eq_true (by first | (with_reducible assumption) | assumption)
                      have q144 : x12_1 < (l2.length : Int) := of_decide_eq_true (by first | (with_reducible assumption) | assumption)
                      obtain ⟨ad144, e144, hx144_0⟩ := Kd.at_int HR2.out x12_1 p144 q144
                      cases e144
                      replace hx144_0 := (HB.out.cell (World.block_lt_of_cell? w _ hx144_0)).trans hx144_0
                      replace p144 := eq_true p144
                      replace q144 := eq_true q144
                      go_wp2_with (first | (go_at_call 7; (with_reducible refine (wainwrightlaw00_Place.calls (rd l2 x12_1) 2 t145 _ A9.out).mono ?_); rintro e w' ⟨rfl, ⟨nd, rfl⟩⟩; have p15 : 0 ≤ ((ji12) : Int) := of_decide_eq_true (by first | (with_reducible assumption) | assumption); have q15 : ((ji12) : Int) < 2 := of_decide_eq_true (by first | (with_reducible assumption) | assumption); have hx15 : ∀ w_, (Instr.index 33 (.agg #[.string (⟨#[97]⟩ : ByteArray), .string (⟨#[63]⟩ : ByteArray)]) (.int .i64 (ji12))).run Try.prog w_ = .ok (.string (rdOf ByteArray.empty ([(⟨#[97]⟩ : ByteArray), (⟨#[63]⟩ : ByteArray)] : List ByteArray) (ji12))) w_ := (by intro w_; obtain ⟨m_, em_⟩ := Int.eq_ofNat_of_zero_le p15; rw [em_] at q15 ⊢; exact wainwrightlaw03_GlobStars.ix0 m_ (by omega) w_); clear p15 q15))
                      go_roundg k1
                      case measure => have := HK1.out; omega
                      case rel => exact ⟨((x9_1 ++ (⟨#[42]⟩ : ByteArray)) ++ (rdOf ByteArray.empty ([(⟨#[97]⟩ : ByteArray), (⟨#[63]⟩ : ByteArray)] : List ByteArray) (ji12))), (true), (wrap64 (x12_1 + 1)), (by first | rfl | (simp; done) | (simp only [← hji12] <;> (first | rfl | simp)) | (simp [*]; done)), (by first | rfl | (simp; done) | (simp [wrap64]; done) | (simp [*]; done)), (by first | rfl | (simp; done) | (simp [wrap64]; done) | (simp [*]; done)), H', ⟨by have := HK1.out; omega⟩, ⟨by repeat (first | (with_reducible first | exact HB.out | apply below_alloc | apply pw_below_drewN | apply below_drew1) | exact HB.out)⟩⟩
                    · rw [if_neg c16] at H
                      exact absurd H (by simp)
                  · rw [if_neg c14] at H
                    exact absurd H (by simp)
                · rw [if_neg c13] at H
                  exact absurd H (by simp)
              · rw [if_neg c11] at H
                exact absurd H (by simp)
            · rw [if_neg c10] at H
              have c10b0 : (t145 == 0) = false := beq_eq_false_iff_ne.mpr c10
              have c10b1 : (t145 != 0) = true := bne_iff_ne.mpr c10
              obtain ⟨ji17, hji17⟩ : ∃ j_ : Int, (Int.tmod x12_1 2) = j_ := ⟨_, rfl⟩
              replace H : (if 0 ≤ (ji17) then (if (ji17) < 2 then (if x9_1.size + (rdOf ByteArray.empty ([(⟨#[97]⟩ : ByteArray), (⟨#[63]⟩ : ByteArray)] : List ByteArray) (ji17)).size ≤ 9223372036854775807 then (wainwrightlaw03_GlobStars.l0 k1 l2 t142 t143 (x9_1 ++ (rdOf ByteArray.empty ([(⟨#[97]⟩ : ByteArray), (⟨#[63]⟩ : ByteArray)] : List ByteArray) (ji17))) (⟨#[]⟩ : ByteArray) x11_1 (wrap64 (x12_1 + 1))) else (none)) else (none)) else (none)) = some r := by first | (rw [hji17] at H; exact H) | (simp only [hji17] at H ⊢; exact H) | exact H
              (try rw [hji17] at A9)
              by_cases c18 : 0 ≤ (ji17)
              · rw [if_pos c18] at H
                have c18b0 : decide (0 ≤ (ji17)) = true := decide_eq_true c18
                clear c18
                by_cases c19 : (ji17) < 2
                · rw [if_pos c19] at H
                  have c19b0 : decide ((ji17) < 2) = true := decide_eq_true c19
                  clear c19
                  by_cases c21 : x9_1.size + (rdOf ByteArray.empty ([(⟨#[97]⟩ : ByteArray), (⟨#[63]⟩ : ByteArray)] : List ByteArray) (ji17)).size ≤ 9223372036854775807
                  · rw [if_pos c21] at H
                    have c21b0 := eq_true c21
                    have c21b1 : decide (x9_1.size + (rdOf ByteArray.empty ([(⟨#[97]⟩ : ByteArray), (⟨#[63]⟩ : ByteArray)] : List ByteArray) (ji17)).size ≤ 9223372036854775807) = true := decide_eq_true c21
                    try have c21b2 : (9223372036854775807 < x9_1.size + (rdOf ByteArray.empty ([(⟨#[97]⟩ : ByteArray), (⟨#[63]⟩ : ByteArray)] : List ByteArray) (ji17)).size) = False := eq_false (Nat.not_lt.2 c21)
                    have H' := Aside0.mk H
                    clear H
                    have p144 : 0 ≤ (x12_1 : Int) := of_decide_eq_true (by first | (with_reducible assumption) | assumption)
                    have q144 : x12_1 < (l2.length : Int) := of_decide_eq_true (by first | (with_reducible assumption) | assumption)
                    obtain ⟨ad144, e144, hx144_0⟩ := Kd.at_int HR2.out x12_1 p144 q144
                    cases e144
                    replace hx144_0 := (HB.out.cell (World.block_lt_of_cell? w _ hx144_0)).trans hx144_0
                    replace p144 := eq_true p144
                    replace q144 := eq_true q144
                    go_wp2_with (first | (go_at_call 7; (with_reducible refine (wainwrightlaw00_Place.calls (rd l2 x12_1) 2 t145 _ A9.out).mono ?_); rintro e w' ⟨rfl, ⟨nd, rfl⟩⟩; have p20 : 0 ≤ ((ji17) : Int) := of_decide_eq_true (by first | (with_reducible assumption) | assumption); have q20 : ((ji17) : Int) < 2 := of_decide_eq_true (by first | (with_reducible assumption) | assumption); have hx20 : ∀ w_, (Instr.index 33 (.agg #[.string (⟨#[97]⟩ : ByteArray), .string (⟨#[63]⟩ : ByteArray)]) (.int .i64 (ji17))).run Try.prog w_ = .ok (.string (rdOf ByteArray.empty ([(⟨#[97]⟩ : ByteArray), (⟨#[63]⟩ : ByteArray)] : List ByteArray) (ji17))) w_ := (by intro w_; obtain ⟨m_, em_⟩ := Int.eq_ofNat_of_zero_le p20; rw [em_] at q20 ⊢; exact wainwrightlaw03_GlobStars.ix0 m_ (by omega) w_); clear p20 q20))
                    go_roundg k1
                    case measure => have := HK1.out; omega
                    case rel => exact ⟨(x9_1 ++ (rdOf ByteArray.empty ([(⟨#[97]⟩ : ByteArray), (⟨#[63]⟩ : ByteArray)] : List ByteArray) (ji17))), (x11_1), (wrap64 (x12_1 + 1)), (by first | rfl | (simp; done) | (simp only [← hji17] <;> (first | rfl | simp)) | (simp [*]; done)), (by first | rfl | (simp; done) | (simp [wrap64]; done) | (simp [*]; done)), (by first | rfl | (simp; done) | (simp [wrap64]; done) | (simp [*]; done)), H', ⟨by have := HK1.out; omega⟩, ⟨by repeat (first | (with_reducible first | exact HB.out | apply below_alloc | apply pw_below_drewN | apply below_drew1) | exact HB.out)⟩⟩
                  · rw [if_neg c21] at H
                    exact absurd H (by simp)
                · rw [if_neg c19] at H
                  exact absurd H (by simp)
              · rw [if_neg c18] at H
                exact absurd H (by simp)
          · rw [if_neg c8] at H
            exact absurd H (by simp)
        · rw [if_neg c7] at H
          have c7b0 : decide (x12_1 < (l2.length : Int)) = false := decide_eq_false c7
          clear c7
          obtain ⟨ji22, hji22⟩ : ∃ j_ : Int, (Int.tmod x12_1 2) = j_ := ⟨_, rfl⟩
          replace H : (if 0 ≤ (ji22) then (if (ji22) < 2 then (if x9_1.size + (rdOf ByteArray.empty ([(⟨#[97]⟩ : ByteArray), (⟨#[63]⟩ : ByteArray)] : List ByteArray) (ji22)).size ≤ 9223372036854775807 then (wainwrightlaw03_GlobStars.l0 k1 l2 t142 t143 (x9_1 ++ (rdOf ByteArray.empty ([(⟨#[97]⟩ : ByteArray), (⟨#[63]⟩ : ByteArray)] : List ByteArray) (ji22))) (⟨#[]⟩ : ByteArray) x11_1 (wrap64 (x12_1 + 1))) else (none)) else (none)) else (none)) = some r := by first | (rw [hji22] at H; exact H) | (simp only [hji22] at H ⊢; exact H) | exact H
          by_cases c23 : 0 ≤ (ji22)
          · rw [if_pos c23] at H
            have c23b0 : decide (0 ≤ (ji22)) = true := decide_eq_true c23
            clear c23
            by_cases c24 : (ji22) < 2
            · rw [if_pos c24] at H
              have c24b0 : decide ((ji22) < 2) = true := decide_eq_true c24
              clear c24
              by_cases c26 : x9_1.size + (rdOf ByteArray.empty ([(⟨#[97]⟩ : ByteArray), (⟨#[63]⟩ : ByteArray)] : List ByteArray) (ji22)).size ≤ 9223372036854775807
              · rw [if_pos c26] at H
                have c26b0 := eq_true c26
                have c26b1 : decide (x9_1.size + (rdOf ByteArray.empty ([(⟨#[97]⟩ : ByteArray), (⟨#[63]⟩ : ByteArray)] : List ByteArray) (ji22)).size ≤ 9223372036854775807) = true := decide_eq_true c26
                try have c26b2 : (9223372036854775807 < x9_1.size + (rdOf ByteArray.empty ([(⟨#[97]⟩ : ByteArray), (⟨#[63]⟩ : ByteArray)] : List ByteArray) (ji22)).size) = False := eq_false (Nat.not_lt.2 c26)
                have H' := Aside0.mk H
                clear H
                have p25 : 0 ≤ ((ji22) : Int) := of_decide_eq_true (by first | (with_reducible assumption) | assumption)
                have q25 : ((ji22) : Int) < 2 := of_decide_eq_true (by first | (with_reducible assumption) | assumption)
                have hx25 : ∀ w_, (Instr.index 33 (.agg #[.string (⟨#[97]⟩ : ByteArray), .string (⟨#[63]⟩ : ByteArray)]) (.int .i64 (ji22))).run Try.prog w_ = .ok (.string (rdOf ByteArray.empty ([(⟨#[97]⟩ : ByteArray), (⟨#[63]⟩ : ByteArray)] : List ByteArray) (ji22))) w_ := (by intro w_; obtain ⟨m_, em_⟩ := Int.eq_ofNat_of_zero_le p25; rw [em_] at q25 ⊢; exact wainwrightlaw03_GlobStars.ix0 m_ (by omega) w_)
                clear p25 q25
                go_wp2
                go_roundg k1
                case measure => have := HK1.out; omega
                case rel => exact ⟨(x9_1 ++ (rdOf ByteArray.empty ([(⟨#[97]⟩ : ByteArray), (⟨#[63]⟩ : ByteArray)] : List ByteArray) (ji22))), (x11_1), (wrap64 (x12_1 + 1)), (by first | rfl | (simp; done) | (simp only [← hji22] <;> (first | rfl | simp)) | (simp [*]; done)), (by first | rfl | (simp; done) | (simp [wrap64]; done) | (simp [*]; done)), (by first | rfl | (simp; done) | (simp [wrap64]; done) | (simp [*]; done)), H', ⟨by have := HK1.out; omega⟩, ⟨by repeat (first | (with_reducible first | exact HB.out | apply below_alloc | apply pw_below_drewN | apply below_drew1) | exact HB.out)⟩⟩
              · rw [if_neg c26] at H
                exact absurd H (by simp)
            · rw [if_neg c24] at H
              exact absurd H (by simp)
          · rw [if_neg c23] at H
            exact absurd H (by simp)
      · rw [if_neg c6] at H
        have c6b0 : decide (x12_1 < t142) = false := decide_eq_false c6
        clear c6
        have HC27 := Aside0.mk H
        clear H
        go_upto_region 9 with (fail)
        go_cut [54] (fun v54 wc => ∃ (kq : Nat) (x54_26 : Bool), v54 = .bool x54_26 ∧ Aside0 (wainwrightlaw03_GlobStars.j1 kq t142 t143 x9_1 (⟨#[]⟩ : ByteArray) x11_1 x54_26 = some r) ∧ Aside0 (kq ≤ k1) ∧ Aside0 (Below w.heap.size w wc))
        case first =>
          have H := HC27.out
          clear HC27
          by_cases c28 : t142 < (l2.length : Int)
          · rw [if_pos c28] at H
            have c28b0 : decide (t142 < (l2.length : Int)) = true := decide_eq_true c28
            clear c28
            (first | rw [c28b0] | (simp only [i64_w, i32_w]; rw [c28b0]) | skip)
            by_cases c29 : 0 ≤ t142
            · rw [if_pos c29] at H
              have c29b0 : decide (0 ≤ t142) = true := decide_eq_true c29
              clear c29
              replace H := Option.bind_eq_some_iff.mp H
              obtain ⟨t147, A300, H⟩ := H
              replace H : (wainwrightlaw03_GlobStars.j1 k1 t142 t143 x9_1 (⟨#[]⟩ : ByteArray) x11_1 (t147 == 0)) = some r := H
              have A30 := Aside0.mk A300
              clear A300
              have H' := Aside0.mk H
              clear H
              have p146 : 0 ≤ (t142 : Int) := of_decide_eq_true (by first | (with_reducible assumption) | assumption)
              have q146 : t142 < (l2.length : Int) := of_decide_eq_true (by first | (with_reducible assumption) | assumption)
              obtain ⟨ad146, e146, hx146_0⟩ := Kd.at_int HR2.out t142 p146 q146
              cases e146
              replace hx146_0 := (HB.out.cell (World.block_lt_of_cell? w _ hx146_0)).trans hx146_0
              replace p146 := eq_true p146
              replace q146 := eq_true q146
              go_wp2_with (first | (go_at_call 7; (with_reducible refine (wainwrightlaw00_Place.calls (rd l2 t142) 2 t147 _ A30.out).mono ?_); rintro e w' ⟨rfl, ⟨nd, rfl⟩⟩))
              go_meet
              case rel => exact ⟨_, ((t147 == 0)), (by first | rfl | (simp; done) | (simp [wrap64]; done) | (simp [*]; done)), H', ⟨by have := HK1.out; first | omega | exact Nat.le_refl _⟩, ⟨by repeat (first | (with_reducible first | exact HB.out | apply below_alloc | apply pw_below_drewN | apply below_drew1) | exact HB.out)⟩⟩
            · rw [if_neg c29] at H
              exact absurd H (by simp)
          · rw [if_neg c28] at H
            have c28b0 : decide (t142 < (l2.length : Int)) = false := decide_eq_false c28
            clear c28
            (first | rw [c28b0] | (simp only [i64_w, i32_w]; rw [c28b0]) | skip)
            have H' := Aside0.mk H
            clear H
            go_wp2
            go_meet
            case rel => exact ⟨_, (false), (by first | rfl | (simp; done) | (simp [wrap64]; done) | (simp [*]; done)), H', ⟨by have := HK1.out; first | omega | exact Nat.le_refl _⟩, ⟨by repeat (first | (with_reducible first | exact HB.out | apply below_alloc | apply pw_below_drewN | apply below_drew1) | exact HB.out)⟩⟩
        case rest =>
          clear HC27
          try clear c1
          try clear p1
          try clear q1
          try clear hx1
          try clear c2
          try clear p2
          try clear q2
          try clear hx2
          try clear c5
          try clear c6
          try clear c6b0
          try clear p6
          try clear c7
          try clear c7b0
          try clear c8
          try clear c8b0
          try clear c10
          try clear c10b0
          try clear c10b1
          try clear c11
          try clear c11b0
          try clear c11b1
          try clear c11b2
          try clear c13
          try clear c13b0
          try clear c14
          try clear c14b0
          try clear p14
          try clear q14
          try clear hx14
          try clear p15
          try clear q15
          try clear hx15
          try clear c16
          try clear c16b0
          try clear c16b1
          try clear c16b2
          try clear c18
          try clear c18b0
          try clear c19
          try clear c19b0
          try clear p20
          try clear q20
          try clear hx20
          try clear c21
          try clear c21b0
          try clear c21b1
          try clear c21b2
          try clear c23
          try clear c23b0
          try clear c24
          try clear c24b0
          try clear p25
          try clear q25
          try clear hx25
          try clear c26
          try clear c26b0
          try clear c26b1
          try clear c26b2
          try clear c28
          try clear c28b0
          try clear c29
          try clear c29b0
          try clear hx144_0
          try clear hx146_0
          try clear p144
          try clear p146
          try clear p15
          try clear p2
          try clear p20
          try clear p25
          try clear q144
          try clear q146
          try clear q15
          try clear q20
          try clear q25
          obtain ⟨kq, x54_26, rfl, HA, HJ26, HB⟩ := hcut
          cases kq with
          | zero => exact absurd HA.out (by simp [wainwrightlaw03_GlobStars.j1])
          | succ kj26 =>
            have H := HA.out
            clear HA
            simp only [wainwrightlaw03_GlobStars.j1] at H
            have HC31 := Aside0.mk H
            clear H
            go_upto_if 54 with (fail)
            go_cut [9, 11] (fun v9 v11 wc => ∃ (kq : Nat) (x9_30 : ByteArray) (x11_30 : Bool), v9 = .string x9_30 ∧ v11 = .bool x11_30 ∧ Aside0 (wainwrightlaw03_GlobStars.j2 kq t142 t143 x9_30 (⟨#[]⟩ : ByteArray) x11_30 = some r) ∧ Aside0 (kq ≤ kj26) ∧ Aside0 (Below w.heap.size w wc))
            case first =>
              have H := HC31.out
              clear HC31
              by_cases c32 : x54_26 = true
              · subst c32
                have H1 : (if x9_1.size + 1 ≤ 9223372036854775807 then (wainwrightlaw03_GlobStars.j2 kj26 t142 t143 (x9_1 ++ (⟨#[42]⟩ : ByteArray)) (⟨#[]⟩ : ByteArray) true) else (none)) = some r := by rw [if_pos rfl] at H; exact H
                clear H
                have H := H1
                clear H1
                by_cases c33 : x9_1.size + 1 ≤ 9223372036854775807
                · rw [if_pos c33] at H
                  have c33b0 := eq_true c33
                  have c33b1 : decide (x9_1.size + 1 ≤ 9223372036854775807) = true := decide_eq_true c33
                  try have c33b2 : (9223372036854775807 < x9_1.size + 1) = False := eq_false (Nat.not_lt.2 c33)
                  have H' := Aside0.mk H
                  clear H
                  go_wp2
                  go_meet
                  case rel => exact ⟨_, (x9_1 ++ (⟨#[42]⟩ : ByteArray)), (true), (by first | rfl | (simp; done) | (simp [wrap64]; done) | (simp [*]; done)), (by first | rfl | (simp; done) | (simp [wrap64]; done) | (simp [*]; done)), H', ⟨by have := HK1.out; have := HJ26.out; first | omega | exact Nat.le_refl _⟩, ⟨by repeat (first | (with_reducible first | exact HB.out | apply below_alloc | apply pw_below_drewN | apply below_drew1) | exact HB.out)⟩⟩
                · rw [if_neg c33] at H
                  exact absurd H (by simp)
              · replace c32 := Bool.eq_false_iff.mpr c32
                subst c32
                have H1 : (wainwrightlaw03_GlobStars.j2 kj26 t142 t143 x9_1 (⟨#[]⟩ : ByteArray) x11_1) = some r := by rw [if_neg (show ¬ (false = true) by decide)] at H; exact H
                clear H
                have H := H1
                clear H1
                have H' := Aside0.mk H
                clear H
                go_wp2
                go_meet
                case rel => exact ⟨_, (x9_1), (x11_1), (by first | rfl | (simp; done) | (simp [wrap64]; done) | (simp [*]; done)), (by first | rfl | (simp; done) | (simp [wrap64]; done) | (simp [*]; done)), H', ⟨by have := HK1.out; have := HJ26.out; first | omega | exact Nat.le_refl _⟩, ⟨by repeat (first | (with_reducible first | exact HB.out | apply below_alloc | apply pw_below_drewN | apply below_drew1) | exact HB.out)⟩⟩
            case rest =>
              clear HC31
              try clear c1
              try clear p1
              try clear q1
              try clear hx1
              try clear c2
              try clear p2
              try clear q2
              try clear hx2
              try clear c3
              try clear c5
              try clear c6
              try clear c6b0
              try clear p6
              try clear c7
              try clear c7b0
              try clear c8
              try clear c8b0
              try clear c10
              try clear c10b0
              try clear c10b1
              try clear c11
              try clear c11b0
              try clear c11b1
              try clear c11b2
              try clear c13
              try clear c13b0
              try clear c14
              try clear c14b0
              try clear p14
              try clear q14
              try clear hx14
              try clear p15
              try clear q15
              try clear hx15
              try clear c16
              try clear c16b0
              try clear c16b1
              try clear c16b2
              try clear c18
              try clear c18b0
              try clear c19
              try clear c19b0
              try clear p20
              try clear q20
              try clear hx20
              try clear c21
              try clear c21b0
              try clear c21b1
              try clear c21b2
              try clear c23
              try clear c23b0
              try clear c24
              try clear c24b0
              try clear p25
              try clear q25
              try clear hx25
              try clear c26
              try clear c26b0
              try clear c26b1
              try clear c26b2
              try clear c28
              try clear c28b0
              try clear c29
              try clear c29b0
              try clear c32
              try clear c33
              try clear c33b0
              try clear c33b1
              try clear c33b2
              try clear hx144_0
              try clear hx146_0
              try clear p1
              try clear p14
              try clear p144
              try clear p146
              try clear p15
              try clear p2
              try clear p20
              try clear p25
              try clear p6
              try clear q1
              try clear q14
              try clear q144
              try clear q146
              try clear q15
              try clear q2
              try clear q20
              try clear q25
              obtain ⟨kq, x9_30, x11_30, rfl, rfl, HA, HJ30, HB⟩ := hcut
              cases kq with
              | zero => exact absurd HA.out (by simp [wainwrightlaw03_GlobStars.j2])
              | succ kj30 =>
                have H := HA.out
                clear HA
                simp only [wainwrightlaw03_GlobStars.j2] at H
                have H' := Aside0.mk H
                clear H
                go_wp2
                go_loopg [10, 13] kj30 (fun kq v10 v13 w' => ∃ (x10_4 : ByteArray) (x13_4 : Int), v10 = .string x10_4 ∧ v13 = .int .i64 x13_4 ∧ Aside0 (wainwrightlaw03_GlobStars.l1 kq t142 t143 x9_30 x10_4 x11_30 x13_4 = some r) ∧ Aside0 (kq ≤ kj30) ∧ Aside0 (Below w.heap.size w w'))
                case atStart => exact ⟨((⟨#[]⟩ : ByteArray)), (0), (by first | rfl | (simp; done) | (simp [wrap64]; done) | (simp [*]; done)), (by first | rfl | (simp; done) | (simp [wrap64]; done) | (simp [*]; done)), H', ⟨Nat.le_refl _⟩, ⟨by repeat (first | (with_reducible first | exact HB.out | apply below_alloc | apply pw_below_drewN | apply below_drew1) | exact HB.out)⟩⟩
                case round =>
                  clear H'
                  try clear c1
                  try clear p1
                  try clear q1
                  try clear hx1
                  try clear c2
                  try clear p2
                  try clear q2
                  try clear hx2
                  try clear c3
                  try clear c5
                  try clear c6
                  try clear c6b0
                  try clear p6
                  try clear c7
                  try clear c7b0
                  try clear c8
                  try clear c8b0
                  try clear c10
                  try clear c10b0
                  try clear c10b1
                  try clear c11
                  try clear c11b0
                  try clear c11b1
                  try clear c11b2
                  try clear c13
                  try clear c13b0
                  try clear c14
                  try clear c14b0
                  try clear p14
                  try clear q14
                  try clear hx14
                  try clear p15
                  try clear q15
                  try clear hx15
                  try clear c16
                  try clear c16b0
                  try clear c16b1
                  try clear c16b2
                  try clear c18
                  try clear c18b0
                  try clear c19
                  try clear c19b0
                  try clear p20
                  try clear q20
                  try clear hx20
                  try clear c21
                  try clear c21b0
                  try clear c21b1
                  try clear c21b2
                  try clear c23
                  try clear c23b0
                  try clear c24
                  try clear c24b0
                  try clear p25
                  try clear q25
                  try clear hx25
                  try clear c26
                  try clear c26b0
                  try clear c26b1
                  try clear c26b2
                  try clear c28
                  try clear c28b0
                  try clear c29
                  try clear c29b0
                  try clear c32
                  try clear c33
                  try clear c33b0
                  try clear c33b1
                  try clear c33b2
                  try clear hx144_0
                  try clear hx146_0
                  try clear p1
                  try clear p14
                  try clear p144
                  try clear p146
                  try clear p15
                  try clear p2
                  try clear p20
                  try clear p25
                  try clear p6
                  try clear q1
                  try clear q14
                  try clear q144
                  try clear q146
                  try clear q15
                  try clear q2
                  try clear q20
                  try clear q25
                  obtain ⟨x10_4, x13_4, rfl, rfl, HA, HK4, HB⟩ := hrel
                  cases gk with
                  | zero => exact absurd HA.out (by simp [wainwrightlaw03_GlobStars.l1])
                  | succ k4 =>
                    have H := HA.out
                    clear HA
                    simp only [wainwrightlaw03_GlobStars.l1] at H
                    by_cases c34 : x13_4 < t143
                    · rw [if_pos c34] at H
                      have c34b0 : decide (x13_4 < t143) = true := decide_eq_true c34
                      clear c34
                      by_cases c35 : x10_4.size + 1 ≤ 9223372036854775807
                      · rw [if_pos c35] at H
                        have c35b0 := eq_true c35
                        have c35b1 : decide (x10_4.size + 1 ≤ 9223372036854775807) = true := decide_eq_true c35
                        try have c35b2 : (9223372036854775807 < x10_4.size + 1) = False := eq_false (Nat.not_lt.2 c35)
                        have H' := Aside0.mk H
                        clear H
                        go_wp2
                        go_roundg k4
                        case measure => have := HK1.out; have := HJ26.out; have := HJ30.out; have := HK4.out; omega
                        case rel => exact ⟨(x10_4 ++ (⟨#[97]⟩ : ByteArray)), (wrap64 (x13_4 + 1)), (by first | rfl | (simp; done) | (simp [wrap64]; done) | (simp [*]; done)), (by first | rfl | (simp; done) | (simp [wrap64]; done) | (simp [*]; done)), H', ⟨by have := HK1.out; have := HJ26.out; have := HJ30.out; have := HK4.out; omega⟩, ⟨by repeat (first | (with_reducible first | exact HB.out | apply below_alloc | apply pw_below_drewN | apply below_drew1) | exact HB.out)⟩⟩
                      · rw [if_neg c35] at H
                        exact absurd H (by simp)
                    · rw [if_neg c34] at H
                      have c34b0 : decide (x13_4 < t143) = false := decide_eq_false c34
                      clear c34
                      replace H := Option.bind_eq_some_iff.mp H
                      obtain ⟨t148, A360, H⟩ := H
                      replace H : (if t143 = t142 then (if (t148 == true) = true then ((glob_Magic.f k4 x9_30).bind fun t149 => (if x11_30 = true then (if (t149 == true) = true then ((wainwrightlaw03_awake.f k4).bind fun t150 => (some t150)) else (some false)) else (if (t149 == (decide (t142 > 1))) = true then ((wainwrightlaw03_awake.f k4).bind fun t151 => (some t151)) else (some false)))) else (some false)) else (if t143 > t142 then (if (t148 == x11_30) = true then ((glob_Magic.f k4 x9_30).bind fun t152 => (if x11_30 = true then (if (t152 == true) = true then ((wainwrightlaw03_awake.f k4).bind fun t153 => (some t153)) else (some false)) else (if (t152 == (decide (t142 > 1))) = true then ((wainwrightlaw03_awake.f k4).bind fun t154 => (some t154)) else (some false)))) else (some false)) else (if (t148 == false) = true then ((glob_Magic.f k4 x9_30).bind fun t155 => (if x11_30 = true then (if (t155 == true) = true then ((wainwrightlaw03_awake.f k4).bind fun t156 => (some t156)) else (some false)) else (if (t155 == (decide (t142 > 1))) = true then ((wainwrightlaw03_awake.f k4).bind fun t157 => (some t157)) else (some false)))) else (some false)))) = some r := H
                      have A36 := Aside0.mk A360
                      clear A360
                      by_cases c37 : t143 = t142
                      · rw [if_pos c37] at H
                        have c37b0 : (t143 == t142) = true := beq_iff_eq.mpr c37
                        have c37b1 : (t143 != t142) = false := bne_eq_false_iff_eq.mpr c37
                        clear c37
                        by_cases c38 : (t148 == true) = true
                        · rw [if_pos c38] at H
                          have c38b0 : (t148 == true) = true := c38
                          (try (have c38b1 : decide (t148 = true) = true := by simpa using c38))
                          (try (have c38b2 : (t148 == true) = true := by simpa using c38))
                          clear c38
                          replace H := Option.bind_eq_some_iff.mp H
                          obtain ⟨t149, A390, H⟩ := H
                          replace H : (if x11_30 = true then (if (t149 == true) = true then ((wainwrightlaw03_awake.f k4).bind fun t150 => (some t150)) else (some false)) else (if (t149 == (decide (t142 > 1))) = true then ((wainwrightlaw03_awake.f k4).bind fun t151 => (some t151)) else (some false))) = some r := H
                          have A39 := Aside0.mk A390
                          clear A390
                          by_cases c40 : x11_30 = true
                          · subst c40
                            have H1 : (if (t149 == true) = true then ((wainwrightlaw03_awake.f k4).bind fun t150 => (some t150)) else (some false)) = some r := by rw [if_pos rfl] at H; exact H
                            clear H
                            have H := H1
                            clear H1
                            by_cases c41 : (t149 == true) = true
                            · rw [if_pos c41] at H
                              have c41b0 : (t149 == true) = true := c41
                              (try (have c41b1 : decide (t149 = true) = true := by simpa using c41))
                              (try (have c41b2 : (t149 == true) = true := by simpa using c41))
                              clear c41
                              replace H := Option.bind_eq_some_iff.mp H
                              obtain ⟨t150, A420, H⟩ := H
                              replace H : (some t150) = some r := H
                              have A42 := Aside0.mk A420
                              clear A420
                              obtain rfl := Option.some.inj H
                              go_wp2_with (first | ((with_reducible refine gate_callee (f := 9) rfl ?_); refine goesL_ (some 66) rfl rfl Try.func9 (by kernel_rfl) rfl #[.string x9_30, .string x10_4] rfl (by (try simp only [List.map_toArray, List.map_cons, List.map_nil]); first | done | rfl | (simp only [List.length_drop, List.length_take]; rfl)) ?_; (with_reducible refine (glob_Match.calls k4 x9_30 x10_4 t148 _ A36.out).mono ?_); rintro e w43 ⟨rfl, hb⟩; refine ⟨_, rfl, ?_⟩; have n0_ := Aside0.mk (below_step (by repeat (first | (with_reducible first | exact HB.out | apply below_alloc | apply pw_below_drewN | apply below_drew1) | exact HB.out)) hb); clear HB; have HB := n0_; clear n0_; (try clear hb); (try clear hb2); (try clear hk); (try clear hi)) | (go_at_call 11; (with_reducible refine (glob_Magic.calls k4 x9_30 t149 _ A39.out).mono ?_); rintro e w44 ⟨rfl, hb⟩; have n0_ := Aside0.mk (below_step (by repeat (first | (with_reducible first | exact HB.out | apply below_alloc | apply pw_below_drewN | apply below_drew1) | exact HB.out)) hb); clear HB; have HB := n0_; clear n0_; (try clear hb); (try clear hb2); (try clear hk); (try clear hi)) | (go_at_call 8; (with_reducible refine (wainwrightlaw03_awake.calls k4  t150 _ A42.out).mono ?_); rintro e w45 ⟨rfl, hb⟩; have n0_ := Aside0.mk (below_step (by repeat (first | (with_reducible first | exact HB.out | apply below_alloc | apply pw_below_drewN | apply below_drew1) | exact HB.out)) hb); clear HB; have HB := n0_; clear n0_; (try clear hb); (try clear hb2); (try clear hk); (try clear hi)))
                              go_ret
                              exact ⟨by first | rfl | (simp [errW_none, errW_some] <;> rfl) | (simp [*, errW_none, errW_some] <;> rfl), by repeat (first | (with_reducible first | exact HB.out | apply below_alloc | apply pw_below_drewN | apply below_drew1) | exact HB.out)⟩
                            · rw [if_neg c41] at H
                              have c41b0 : (t149 == true) = false := by simpa using c41
                              (try (have c41b1 : decide (t149 = true) = false := by simpa using c41))
                              (try (have c41b2 : (t149 == true) = false := by simpa using c41))
                              (try (have c41b3 : ¬ (t149 = true) := by simpa using c41))
                              clear c41
                              exact absurd ((Option.some.inj H).trans hr_.out) (by decide)
                          · replace c40 := Bool.eq_false_iff.mpr c40
                            subst c40
                            have H1 : (if (t149 == (decide (t142 > 1))) = true then ((wainwrightlaw03_awake.f k4).bind fun t151 => (some t151)) else (some false)) = some r := by rw [if_neg (show ¬ (false = true) by decide)] at H; exact H
                            clear H
                            have H := H1
                            clear H1
                            by_cases c46 : (t149 == (decide (t142 > 1))) = true
                            · rw [if_pos c46] at H
                              have c46b0 : (t149 == (decide (t142 > 1))) = true := c46
                              (try (have c46b1 : decide (t149 = (decide (t142 > 1))) = true := by simpa using c46))
                              (try (have c46b2 : (t149 == (decide (t142 > 1))) = true := by simpa using c46))
                              clear c46
                              replace H := Option.bind_eq_some_iff.mp H
                              obtain ⟨t151, A470, H⟩ := H
                              replace H : (some t151) = some r := H
                              have A47 := Aside0.mk A470
                              clear A470
                              obtain rfl := Option.some.inj H
                              go_wp2_with (first | ((with_reducible refine gate_callee (f := 9) rfl ?_); refine goesL_ (some 66) rfl rfl Try.func9 (by kernel_rfl) rfl #[.string x9_30, .string x10_4] rfl (by (try simp only [List.map_toArray, List.map_cons, List.map_nil]); first | done | rfl | (simp only [List.length_drop, List.length_take]; rfl)) ?_; (with_reducible refine (glob_Match.calls k4 x9_30 x10_4 t148 _ A36.out).mono ?_); rintro e w48 ⟨rfl, hb⟩; refine ⟨_, rfl, ?_⟩; have n0_ := Aside0.mk (below_step (by repeat (first | (with_reducible first | exact HB.out | apply below_alloc | apply pw_below_drewN | apply below_drew1) | exact HB.out)) hb); clear HB; have HB := n0_; clear n0_; (try clear hb); (try clear hb2); (try clear hk); (try clear hi)) | (go_at_call 11; (with_reducible refine (glob_Magic.calls k4 x9_30 t149 _ A39.out).mono ?_); rintro e w49 ⟨rfl, hb⟩; have n0_ := Aside0.mk (below_step (by repeat (first | (with_reducible first | exact HB.out | apply below_alloc | apply pw_below_drewN | apply below_drew1) | exact HB.out)) hb); clear HB; have HB := n0_; clear n0_; (try clear hb); (try clear hb2); (try clear hk); (try clear hi)) | (go_at_call 8; (with_reducible refine (wainwrightlaw03_awake.calls k4  t151 _ A47.out).mono ?_); rintro e w50 ⟨rfl, hb⟩; have n0_ := Aside0.mk (below_step (by repeat (first | (with_reducible first | exact HB.out | apply below_alloc | apply pw_below_drewN | apply below_drew1) | exact HB.out)) hb); clear HB; have HB := n0_; clear n0_; (try clear hb); (try clear hb2); (try clear hk); (try clear hi)))
                              go_ret
                              exact ⟨by first | rfl | (simp [errW_none, errW_some] <;> rfl) | (simp [*, errW_none, errW_some] <;> rfl), by repeat (first | (with_reducible first | exact HB.out | apply below_alloc | apply pw_below_drewN | apply below_drew1) | exact HB.out)⟩
                            · rw [if_neg c46] at H
                              have c46b0 : (t149 == (decide (t142 > 1))) = false := by simpa using c46
                              (try (have c46b1 : decide (t149 = (decide (t142 > 1))) = false := by simpa using c46))
                              (try (have c46b2 : (t149 == (decide (t142 > 1))) = false := by simpa using c46))
                              (try (have c46b3 : ¬ (t149 = (decide (t142 > 1))) := by simpa using c46))
                              clear c46
                              exact absurd ((Option.some.inj H).trans hr_.out) (by decide)
                        · rw [if_neg c38] at H
                          have c38b0 : (t148 == true) = false := by simpa using c38
                          (try (have c38b1 : decide (t148 = true) = false := by simpa using c38))
                          (try (have c38b2 : (t148 == true) = false := by simpa using c38))
                          (try (have c38b3 : ¬ (t148 = true) := by simpa using c38))
                          clear c38
                          exact absurd ((Option.some.inj H).trans hr_.out) (by decide)
                      · rw [if_neg c37] at H
                        have c37b0 : (t143 == t142) = false := beq_eq_false_iff_ne.mpr c37
                        have c37b1 : (t143 != t142) = true := bne_iff_ne.mpr c37
                        by_cases c51 : t143 > t142
                        · rw [if_pos c51] at H
                          have c51b0 : decide (t142 < t143) = true := decide_eq_true c51
                          clear c51
                          by_cases c52 : (t148 == x11_30) = true
                          · rw [if_pos c52] at H
                            have c52b0 : (t148 == x11_30) = true := c52
                            (try (have c52b1 : decide (t148 = x11_30) = true := by simpa using c52))
                            (try (have c52b2 : (t148 == x11_30) = true := by simpa using c52))
                            clear c52
                            replace H := Option.bind_eq_some_iff.mp H
                            obtain ⟨t152, A530, H⟩ := H
                            replace H : (if x11_30 = true then (if (t152 == true) = true then ((wainwrightlaw03_awake.f k4).bind fun t153 => (some t153)) else (some false)) else (if (t152 == (decide (t142 > 1))) = true then ((wainwrightlaw03_awake.f k4).bind fun t154 => (some t154)) else (some false))) = some r := H
                            have A53 := Aside0.mk A530
                            clear A530
                            by_cases c54 : x11_30 = true
                            · subst c54
                              have H1 : (if (t152 == true) = true then ((wainwrightlaw03_awake.f k4).bind fun t153 => (some t153)) else (some false)) = some r := by rw [if_pos rfl] at H; exact H
                              clear H
                              have H := H1
                              clear H1
                              by_cases c55 : (t152 == true) = true
                              · rw [if_pos c55] at H
                                have c55b0 : (t152 == true) = true := c55
                                (try (have c55b1 : decide (t152 = true) = true := by simpa using c55))
                                (try (have c55b2 : (t152 == true) = true := by simpa using c55))
                                clear c55
                                replace H := Option.bind_eq_some_iff.mp H
                                obtain ⟨t153, A560, H⟩ := H
                                replace H : (some t153) = some r := H
                                have A56 := Aside0.mk A560
                                clear A560
                                obtain rfl := Option.some.inj H
                                go_wp2_with (first | ((with_reducible refine gate_callee (f := 9) rfl ?_); refine goesL_ (some 66) rfl rfl Try.func9 (by kernel_rfl) rfl #[.string x9_30, .string x10_4] rfl (by (try simp only [List.map_toArray, List.map_cons, List.map_nil]); first | done | rfl | (simp only [List.length_drop, List.length_take]; rfl)) ?_; (with_reducible refine (glob_Match.calls k4 x9_30 x10_4 t148 _ A36.out).mono ?_); rintro e w57 ⟨rfl, hb⟩; refine ⟨_, rfl, ?_⟩; have n0_ := Aside0.mk (below_step (by repeat (first | (with_reducible first | exact HB.out | apply below_alloc | apply pw_below_drewN | apply below_drew1) | exact HB.out)) hb); clear HB; have HB := n0_; clear n0_; (try clear hb); (try clear hb2); (try clear hk); (try clear hi)) | (go_at_call 11; (with_reducible refine (glob_Magic.calls k4 x9_30 t152 _ A53.out).mono ?_); rintro e w58 ⟨rfl, hb⟩; have n0_ := Aside0.mk (below_step (by repeat (first | (with_reducible first | exact HB.out | apply below_alloc | apply pw_below_drewN | apply below_drew1) | exact HB.out)) hb); clear HB; have HB := n0_; clear n0_; (try clear hb); (try clear hb2); (try clear hk); (try clear hi)) | (go_at_call 8; (with_reducible refine (wainwrightlaw03_awake.calls k4  t153 _ A56.out).mono ?_); rintro e w59 ⟨rfl, hb⟩; have n0_ := Aside0.mk (below_step (by repeat (first | (with_reducible first | exact HB.out | apply below_alloc | apply pw_below_drewN | apply below_drew1) | exact HB.out)) hb); clear HB; have HB := n0_; clear n0_; (try clear hb); (try clear hb2); (try clear hk); (try clear hi)))
                                go_ret
                                exact ⟨by first | rfl | (simp [errW_none, errW_some] <;> rfl) | (simp [*, errW_none, errW_some] <;> rfl), by repeat (first | (with_reducible first | exact HB.out | apply below_alloc | apply pw_below_drewN | apply below_drew1) | exact HB.out)⟩
                              · rw [if_neg c55] at H
                                have c55b0 : (t152 == true) = false := by simpa using c55
                                (try (have c55b1 : decide (t152 = true) = false := by simpa using c55))
                                (try (have c55b2 : (t152 == true) = false := by simpa using c55))
                                (try (have c55b3 : ¬ (t152 = true) := by simpa using c55))
                                clear c55
                                exact absurd ((Option.some.inj H).trans hr_.out) (by decide)
                            · replace c54 := Bool.eq_false_iff.mpr c54
                              subst c54
                              have H1 : (if (t152 == (decide (t142 > 1))) = true then ((wainwrightlaw03_awake.f k4).bind fun t154 => (some t154)) else (some false)) = some r := by rw [if_neg (show ¬ (false = true) by decide)] at H; exact H
                              clear H
                              have H := H1
                              clear H1
                              by_cases c60 : (t152 == (decide (t142 > 1))) = true
                              · rw [if_pos c60] at H
                                have c60b0 : (t152 == (decide (t142 > 1))) = true := c60
                                (try (have c60b1 : decide (t152 = (decide (t142 > 1))) = true := by simpa using c60))
                                (try (have c60b2 : (t152 == (decide (t142 > 1))) = true := by simpa using c60))
                                clear c60
                                replace H := Option.bind_eq_some_iff.mp H
                                obtain ⟨t154, A610, H⟩ := H
                                replace H : (some t154) = some r := H
                                have A61 := Aside0.mk A610
                                clear A610
                                obtain rfl := Option.some.inj H
                                go_wp2_with (first | ((with_reducible refine gate_callee (f := 9) rfl ?_); refine goesL_ (some 66) rfl rfl Try.func9 (by kernel_rfl) rfl #[.string x9_30, .string x10_4] rfl (by (try simp only [List.map_toArray, List.map_cons, List.map_nil]); first | done | rfl | (simp only [List.length_drop, List.length_take]; rfl)) ?_; (with_reducible refine (glob_Match.calls k4 x9_30 x10_4 t148 _ A36.out).mono ?_); rintro e w62 ⟨rfl, hb⟩; refine ⟨_, rfl, ?_⟩; have n0_ := Aside0.mk (below_step (by repeat (first | (with_reducible first | exact HB.out | apply below_alloc | apply pw_below_drewN | apply below_drew1) | exact HB.out)) hb); clear HB; have HB := n0_; clear n0_; (try clear hb); (try clear hb2); (try clear hk); (try clear hi)) | (go_at_call 11; (with_reducible refine (glob_Magic.calls k4 x9_30 t152 _ A53.out).mono ?_); rintro e w63 ⟨rfl, hb⟩; have n0_ := Aside0.mk (below_step (by repeat (first | (with_reducible first | exact HB.out | apply below_alloc | apply pw_below_drewN | apply below_drew1) | exact HB.out)) hb); clear HB; have HB := n0_; clear n0_; (try clear hb); (try clear hb2); (try clear hk); (try clear hi)) | (go_at_call 8; (with_reducible refine (wainwrightlaw03_awake.calls k4  t154 _ A61.out).mono ?_); rintro e w64 ⟨rfl, hb⟩; have n0_ := Aside0.mk (below_step (by repeat (first | (with_reducible first | exact HB.out | apply below_alloc | apply pw_below_drewN | apply below_drew1) | exact HB.out)) hb); clear HB; have HB := n0_; clear n0_; (try clear hb); (try clear hb2); (try clear hk); (try clear hi)))
                                go_ret
                                exact ⟨by first | rfl | (simp [errW_none, errW_some] <;> rfl) | (simp [*, errW_none, errW_some] <;> rfl), by repeat (first | (with_reducible first | exact HB.out | apply below_alloc | apply pw_below_drewN | apply below_drew1) | exact HB.out)⟩
                              · rw [if_neg c60] at H
                                have c60b0 : (t152 == (decide (t142 > 1))) = false := by simpa using c60
                                (try (have c60b1 : decide (t152 = (decide (t142 > 1))) = false := by simpa using c60))
                                (try (have c60b2 : (t152 == (decide (t142 > 1))) = false := by simpa using c60))
                                (try (have c60b3 : ¬ (t152 = (decide (t142 > 1))) := by simpa using c60))
                                clear c60
                                exact absurd ((Option.some.inj H).trans hr_.out) (by decide)
                          · rw [if_neg c52] at H
                            have c52b0 : (t148 == x11_30) = false := by simpa using c52
                            (try (have c52b1 : decide (t148 = x11_30) = false := by simpa using c52))
                            (try (have c52b2 : (t148 == x11_30) = false := by simpa using c52))
                            (try (have c52b3 : ¬ (t148 = x11_30) := by simpa using c52))
                            clear c52
                            exact absurd ((Option.some.inj H).trans hr_.out) (by decide)
                        · rw [if_neg c51] at H
                          have c51b0 : decide (t142 < t143) = false := decide_eq_false c51
                          clear c51
                          by_cases c65 : (t148 == false) = true
                          · rw [if_pos c65] at H
                            have c65b0 : (t148 == false) = true := c65
                            (try (have c65b1 : decide (t148 = false) = true := by simpa using c65))
                            (try (have c65b2 : (t148 == false) = true := by simpa using c65))
                            clear c65
                            replace H := Option.bind_eq_some_iff.mp H
                            obtain ⟨t155, A660, H⟩ := H
                            replace H : (if x11_30 = true then (if (t155 == true) = true then ((wainwrightlaw03_awake.f k4).bind fun t156 => (some t156)) else (some false)) else (if (t155 == (decide (t142 > 1))) = true then ((wainwrightlaw03_awake.f k4).bind fun t157 => (some t157)) else (some false))) = some r := H
                            have A66 := Aside0.mk A660
                            clear A660
                            by_cases c67 : x11_30 = true
                            · subst c67
                              have H1 : (if (t155 == true) = true then ((wainwrightlaw03_awake.f k4).bind fun t156 => (some t156)) else (some false)) = some r := by rw [if_pos rfl] at H; exact H
                              clear H
                              have H := H1
                              clear H1
                              by_cases c68 : (t155 == true) = true
                              · rw [if_pos c68] at H
                                have c68b0 : (t155 == true) = true := c68
                                (try (have c68b1 : decide (t155 = true) = true := by simpa using c68))
                                (try (have c68b2 : (t155 == true) = true := by simpa using c68))
                                clear c68
                                replace H := Option.bind_eq_some_iff.mp H
                                obtain ⟨t156, A690, H⟩ := H
                                replace H : (some t156) = some r := H
                                have A69 := Aside0.mk A690
                                clear A690
                                obtain rfl := Option.some.inj H
                                go_wp2_with (first | ((with_reducible refine gate_callee (f := 9) rfl ?_); refine goesL_ (some 66) rfl rfl Try.func9 (by kernel_rfl) rfl #[.string x9_30, .string x10_4] rfl (by (try simp only [List.map_toArray, List.map_cons, List.map_nil]); first | done | rfl | (simp only [List.length_drop, List.length_take]; rfl)) ?_; (with_reducible refine (glob_Match.calls k4 x9_30 x10_4 t148 _ A36.out).mono ?_); rintro e w70 ⟨rfl, hb⟩; refine ⟨_, rfl, ?_⟩; have n0_ := Aside0.mk (below_step (by repeat (first | (with_reducible first | exact HB.out | apply below_alloc | apply pw_below_drewN | apply below_drew1) | exact HB.out)) hb); clear HB; have HB := n0_; clear n0_; (try clear hb); (try clear hb2); (try clear hk); (try clear hi)) | (go_at_call 11; (with_reducible refine (glob_Magic.calls k4 x9_30 t155 _ A66.out).mono ?_); rintro e w71 ⟨rfl, hb⟩; have n0_ := Aside0.mk (below_step (by repeat (first | (with_reducible first | exact HB.out | apply below_alloc | apply pw_below_drewN | apply below_drew1) | exact HB.out)) hb); clear HB; have HB := n0_; clear n0_; (try clear hb); (try clear hb2); (try clear hk); (try clear hi)) | (go_at_call 8; (with_reducible refine (wainwrightlaw03_awake.calls k4  t156 _ A69.out).mono ?_); rintro e w72 ⟨rfl, hb⟩; have n0_ := Aside0.mk (below_step (by repeat (first | (with_reducible first | exact HB.out | apply below_alloc | apply pw_below_drewN | apply below_drew1) | exact HB.out)) hb); clear HB; have HB := n0_; clear n0_; (try clear hb); (try clear hb2); (try clear hk); (try clear hi)))
                                go_ret
                                exact ⟨by first | rfl | (simp [errW_none, errW_some] <;> rfl) | (simp [*, errW_none, errW_some] <;> rfl), by repeat (first | (with_reducible first | exact HB.out | apply below_alloc | apply pw_below_drewN | apply below_drew1) | exact HB.out)⟩
                              · rw [if_neg c68] at H
                                have c68b0 : (t155 == true) = false := by simpa using c68
                                (try (have c68b1 : decide (t155 = true) = false := by simpa using c68))
                                (try (have c68b2 : (t155 == true) = false := by simpa using c68))
                                (try (have c68b3 : ¬ (t155 = true) := by simpa using c68))
                                clear c68
                                exact absurd ((Option.some.inj H).trans hr_.out) (by decide)
                            · replace c67 := Bool.eq_false_iff.mpr c67
                              subst c67
                              have H1 : (if (t155 == (decide (t142 > 1))) = true then ((wainwrightlaw03_awake.f k4).bind fun t157 => (some t157)) else (some false)) = some r := by rw [if_neg (show ¬ (false = true) by decide)] at H; exact H
                              clear H
                              have H := H1
                              clear H1
                              by_cases c73 : (t155 == (decide (t142 > 1))) = true
                              · rw [if_pos c73] at H
                                have c73b0 : (t155 == (decide (t142 > 1))) = true := c73
                                (try (have c73b1 : decide (t155 = (decide (t142 > 1))) = true := by simpa using c73))
                                (try (have c73b2 : (t155 == (decide (t142 > 1))) = true := by simpa using c73))
                                clear c73
                                replace H := Option.bind_eq_some_iff.mp H
                                obtain ⟨t157, A740, H⟩ := H
                                replace H : (some t157) = some r := H
                                have A74 := Aside0.mk A740
                                clear A740
                                obtain rfl := Option.some.inj H
                                go_wp2_with (first | ((with_reducible refine gate_callee (f := 9) rfl ?_); refine goesL_ (some 66) rfl rfl Try.func9 (by kernel_rfl) rfl #[.string x9_30, .string x10_4] rfl (by (try simp only [List.map_toArray, List.map_cons, List.map_nil]); first | done | rfl | (simp only [List.length_drop, List.length_take]; rfl)) ?_; (with_reducible refine (glob_Match.calls k4 x9_30 x10_4 t148 _ A36.out).mono ?_); rintro e w75 ⟨rfl, hb⟩; refine ⟨_, rfl, ?_⟩; have n0_ := Aside0.mk (below_step (by repeat (first | (with_reducible first | exact HB.out | apply below_alloc | apply pw_below_drewN | apply below_drew1) | exact HB.out)) hb); clear HB; have HB := n0_; clear n0_; (try clear hb); (try clear hb2); (try clear hk); (try clear hi)) | (go_at_call 11; (with_reducible refine (glob_Magic.calls k4 x9_30 t155 _ A66.out).mono ?_); rintro e w76 ⟨rfl, hb⟩; have n0_ := Aside0.mk (below_step (by repeat (first | (with_reducible first | exact HB.out | apply below_alloc | apply pw_below_drewN | apply below_drew1) | exact HB.out)) hb); clear HB; have HB := n0_; clear n0_; (try clear hb); (try clear hb2); (try clear hk); (try clear hi)) | (go_at_call 8; (with_reducible refine (wainwrightlaw03_awake.calls k4  t157 _ A74.out).mono ?_); rintro e w77 ⟨rfl, hb⟩; have n0_ := Aside0.mk (below_step (by repeat (first | (with_reducible first | exact HB.out | apply below_alloc | apply pw_below_drewN | apply below_drew1) | exact HB.out)) hb); clear HB; have HB := n0_; clear n0_; (try clear hb); (try clear hb2); (try clear hk); (try clear hi)))
                                go_ret
                                exact ⟨by first | rfl | (simp [errW_none, errW_some] <;> rfl) | (simp [*, errW_none, errW_some] <;> rfl), by repeat (first | (with_reducible first | exact HB.out | apply below_alloc | apply pw_below_drewN | apply below_drew1) | exact HB.out)⟩
                              · rw [if_neg c73] at H
                                have c73b0 : (t155 == (decide (t142 > 1))) = false := by simpa using c73
                                (try (have c73b1 : decide (t155 = (decide (t142 > 1))) = false := by simpa using c73))
                                (try (have c73b2 : (t155 == (decide (t142 > 1))) = false := by simpa using c73))
                                (try (have c73b3 : ¬ (t155 = (decide (t142 > 1))) := by simpa using c73))
                                clear c73
                                exact absurd ((Option.some.inj H).trans hr_.out) (by decide)
                          · rw [if_neg c65] at H
                            have c65b0 : (t148 == false) = false := by simpa using c65
                            (try (have c65b1 : decide (t148 = false) = false := by simpa using c65))
                            (try (have c65b2 : (t148 == false) = false := by simpa using c65))
                            (try (have c65b3 : ¬ (t148 = false) := by simpa using c65))
                            clear c65
                            exact absurd ((Option.some.inj H).trans hr_.out) (by decide)

/-- THE ONE PURE STATEMENT of wainwrightlaw03_GlobStars: yours. -/
def wainwrightlaw03_GlobStars.Pure : Prop := ∀ (a0 : Int) (a1 : Int) (l2 : List Int), (Lit.int .i64 a0).wf = true → (Lit.int .i64 a1).wf = true → l2.length ≤ maxLen → l2.length * 8 ≤ 140737488351232 → (∀ x ∈ l2, (Lit.int .i64 x).wf = true) → ∃ k, wainwrightlaw03_GlobStars.f k a0 a1 l2 = some true
theorem wainwrightlaw03_GlobStars.walk (P : wainwrightlaw03_GlobStars.Pure) (a0 : Int) (a1 : Int) (a2 : Option Addr) (len2 cap2 : Nat) (z2 : List Int) (w : World) (w0 : (Lit.int .i64 a0).wf = true) (w1 : (Lit.int .i64 a1).wf = true) (w2 : (a2 = none ∧ len2 = 0 ∧ cap2 = 0 ∧ z2 = []) ∨ ∃ x, a2 = some x ∧ len2 ≤ cap2 ∧ cap2 ≤ maxLen ∧ z2.length = cap2 ∧ (∀ i, i < z2.length → w.cell? (x.add i) = some (.int .i64 (z2.getD i 0))) ∧ ∀ n ∈ z2, (Lit.int .i64 n).wf = true) (y2 : len2 * 8 ≤ 140737488351232) :
    Calls Try.prog 5 #[.int .i64 a0, .int .i64 a1, .slice a2 len2 cap2] w fun e w' => e = .returned (.bool true) ∧ Below w.heap.size w w' := by
  obtain ⟨l2, rfl, hr2, hm2, hw2, hc2⟩ := ReadsInt.ofRowC w2
  obtain ⟨k, h⟩ := P a0 a1 l2 w0 w1 hm2 y2 hw2
  refine (wainwrightlaw03_GlobStars.calls k a0 a1 _ _ l2 true (show Hid (true = true) from rfl) w (Kd.C_of_reads (d := (0 : Int)) (h1 := fun _ => rfl) hr2) hc2 h).mono ?_
  rintro e w' ⟨rfl, hd⟩
  exact ⟨rfl, hd⟩

end Go.Proofs.Ytpoekljclapbfaa.P
