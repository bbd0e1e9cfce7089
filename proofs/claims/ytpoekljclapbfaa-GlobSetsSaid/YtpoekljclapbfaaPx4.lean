-- Written by a program of this session (wip/tools) out of the translation, over the kit's print. Not trusted: Lean checks it.
import Derived.Test.YtpoekljclapbfaaPx0
import Derived.Test.YtpoekljclapbfaaP0x1
namespace Go.Proofs.Ytpoekljclapbfaa.G
end Go.Proofs.Ytpoekljclapbfaa.G
namespace Go.Proofs.Ytpoekljclapbfaa.P0
end Go.Proofs.Ytpoekljclapbfaa.P0
namespace Go.Proofs.Ytpoekljclapbfaa.P
open Go.Proofs.Ytpoekljclapbfaa.G Go.Proofs.Ytpoekljclapbfaa.P0
open Go.RowKit Go.Proofs.YtpoekljclapbfaaW.PrintWords Go.Proofs.YtpoekljclapbfaaW.PrintLast Go.Proofs.YtpoekljclapbfaaW.PrintMore
attribute [local go_sem] max2_int min2_int max_two min_two max_three min_three max_four min_four   -- for this text's walks alone
set_option linter.unusedVariables false
set_option linter.unusedSimpArgs false

/-! ### glob_in: function 27 -/
mutual
def glob_in.j0 : Nat → ByteArray → Int → Bool → Option (Bool)
  | 0, _, _, _ => none
  | k + 1, x0, x1, x5 => if x5 = true then (if 1 ≤ (x0.size : Int) then (glob_in.j1 k (x0.extract 1 x0.size) x1 x5) else (none)) else (glob_in.j1 k x0 x1 x5)
def glob_in.j1 : Nat → ByteArray → Int → Bool → Option (Bool)
  | 0, _, _, _ => none
  | k + 1, x0, x1, x5 => glob_in.l0 k x0 x1 x5 false
def glob_in.l0 : Nat → ByteArray → Int → Bool → Bool → Option (Bool)
  | 0, _, _, _, _ => none
  | k + 1, x0, x1, x5, x6 => if x0.toList = ([] : List UInt8) then (some (x6 != x5)) else ((glob_unit.f x0).bind fun bt104 => (if 0 ≤ bt104.2 then (if bt104.2 ≤ (x0.size : Int) then (if ((x0.extract (bt104.2 : Int).toNat x0.size).size : Int) > 1 then (if 0 < ((x0.extract (bt104.2 : Int).toNat x0.size).size : Int) then (if (bt (x0.extract (bt104.2 : Int).toNat x0.size) 0) = 45 then (if 1 ≤ ((x0.extract (bt104.2 : Int).toNat x0.size).size : Int) then ((glob_unit.f ((x0.extract (bt104.2 : Int).toNat x0.size).extract 1 (x0.extract (bt104.2 : Int).toNat x0.size).size)).bind fun bt106 => (if 0 ≤ (wrap64 (1 + bt106.2)) then (if (wrap64 (1 + bt106.2)) ≤ ((x0.extract (bt104.2 : Int).toNat x0.size).size : Int) then (if x6 = true then (glob_in.l0 k ((x0.extract (bt104.2 : Int).toNat x0.size).extract ((wrap64 (1 + bt106.2)) : Int).toNat (x0.extract (bt104.2 : Int).toNat x0.size).size) x1 x5 true) else (if bt104.1 ≤ x1 then (glob_in.l0 k ((x0.extract (bt104.2 : Int).toNat x0.size).extract ((wrap64 (1 + bt106.2)) : Int).toNat (x0.extract (bt104.2 : Int).toNat x0.size).size) x1 x5 (decide (x1 ≤ bt106.1))) else (glob_in.l0 k ((x0.extract (bt104.2 : Int).toNat x0.size).extract ((wrap64 (1 + bt106.2)) : Int).toNat (x0.extract (bt104.2 : Int).toNat x0.size).size) x1 x5 false))) else (none)) else (none))) else (none)) else (if x6 = true then (glob_in.l0 k (x0.extract (bt104.2 : Int).toNat x0.size) x1 x5 true) else (if bt104.1 ≤ x1 then (glob_in.l0 k (x0.extract (bt104.2 : Int).toNat x0.size) x1 x5 (decide (x1 ≤ bt104.1))) else (glob_in.l0 k (x0.extract (bt104.2 : Int).toNat x0.size) x1 x5 false)))) else (none)) else (if x6 = true then (glob_in.l0 k (x0.extract (bt104.2 : Int).toNat x0.size) x1 x5 true) else (if bt104.1 ≤ x1 then (glob_in.l0 k (x0.extract (bt104.2 : Int).toNat x0.size) x1 x5 (decide (x1 ≤ bt104.1))) else (glob_in.l0 k (x0.extract (bt104.2 : Int).toNat x0.size) x1 x5 false)))) else (none)) else (none)))
end
def glob_in.f (k : Nat) (a0 : ByteArray) (a1 : Int) : Option (Bool) := if a0.toList = ([] : List UInt8) then (glob_in.j0 k a0 a1 false) else (if 0 < (a0.size : Int) then (if (bt a0 0) = 33 then (glob_in.j0 k a0 a1 true) else (glob_in.j0 k a0 a1 ((bt a0 0) == 94))) else (none))
theorem glob_in.mono_l : ∀ k, (∀ y0 y1 y2, LeO (glob_in.j0 k y0 y1 y2) (glob_in.j0 (k + 1) y0 y1 y2)) ∧ (∀ y0 y1 y2, LeO (glob_in.j1 k y0 y1 y2) (glob_in.j1 (k + 1) y0 y1 y2)) ∧ (∀ y0 y1 y2 y3, LeO (glob_in.l0 k y0 y1 y2 y3) (glob_in.l0 (k + 1) y0 y1 y2 y3))
  | 0 => ⟨fun _ _ _ r h => by simp [glob_in.j0] at h, fun _ _ _ r h => by simp [glob_in.j1] at h, fun _ _ _ _ r h => by simp [glob_in.l0] at h⟩
  | k + 1 => by
    obtain ⟨ih0, ih1, ih2⟩ := glob_in.mono_l k
    refine ⟨?_, ?_, ?_⟩
    · intro y0 y1 y2
      unfold glob_in.j0
      repeat' first
      | (with_reducible exact ih0 _ _ _)
      | (with_reducible exact ih1 _ _ _)
      | (with_reducible exact ih2 _ _ _ _)
      | (with_reducible exact LeO.refl _)
      | (with_reducible exact LeO.none _)
      | (with_reducible refine LeO.ite ?_ ?_)
      | (with_reducible refine LeO.bind ?_ (fun _ => ?_))
      | exact ih0 _ _ _
      | exact ih1 _ _ _
      | exact ih2 _ _ _ _
      | exact LeO.none _
      | refine LeO.ite ?_ ?_
      | refine LeO.bind ?_ (fun _ => ?_)
    · intro y0 y1 y2
      unfold glob_in.j1
      repeat' first
      | (with_reducible exact ih0 _ _ _)
      | (with_reducible exact ih1 _ _ _)
      | (with_reducible exact ih2 _ _ _ _)
      | (with_reducible exact LeO.refl _)
      | (with_reducible exact LeO.none _)
      | (with_reducible refine LeO.ite ?_ ?_)
      | (with_reducible refine LeO.bind ?_ (fun _ => ?_))
      | exact ih0 _ _ _
      | exact ih1 _ _ _
      | exact ih2 _ _ _ _
      | exact LeO.none _
      | refine LeO.ite ?_ ?_
      | refine LeO.bind ?_ (fun _ => ?_)
    · intro y0 y1 y2 y3
      unfold glob_in.l0
      repeat' first
      | (with_reducible exact ih0 _ _ _)
      | (with_reducible exact ih1 _ _ _)
      | (with_reducible exact ih2 _ _ _ _)
      | (with_reducible exact LeO.refl _)
      | (with_reducible exact LeO.none _)
      | (with_reducible refine LeO.ite ?_ ?_)
      | (with_reducible refine LeO.bind ?_ (fun _ => ?_))
      | exact ih0 _ _ _
      | exact ih1 _ _ _
      | exact ih2 _ _ _ _
      | exact LeO.none _
      | refine LeO.ite ?_ ?_
      | refine LeO.bind ?_ (fun _ => ?_)
theorem glob_in.mono : ∀ a0 a1 k, LeO (glob_in.f k a0 a1) (glob_in.f (k + 1) a0 a1) := by
  intro a0 a1 k
  obtain ⟨ih0, ih1, ih2⟩ := glob_in.mono_l k
  unfold glob_in.f
  repeat' first
      | (with_reducible exact ih0 _ _ _)
      | (with_reducible exact ih1 _ _ _)
      | (with_reducible exact ih2 _ _ _ _)
      | (with_reducible exact LeO.refl _)
      | (with_reducible exact LeO.none _)
      | (with_reducible refine LeO.ite ?_ ?_)
      | (with_reducible refine LeO.bind ?_ (fun _ => ?_))
      | exact ih0 _ _ _
      | exact ih1 _ _ _
      | exact ih2 _ _ _ _
      | exact LeO.none _
      | refine LeO.ite ?_ ?_
      | refine LeO.bind ?_ (fun _ => ?_)
set_option maxHeartbeats 8000000 in
set_option maxRecDepth 100000 in
theorem glob_in.calls (k : Nat) (a0 : ByteArray) (a1 : Int) (r : Bool) (w : World) (h : glob_in.f k a0 a1 = some r) :
    Calls Try.prog 27 #[.string a0, .int .u8 a1] w fun e w' => e = .returned (.bool r) ∧ Drawn0 w w' := by
  have H : (if a0.toList = ([] : List UInt8) then (glob_in.j0 k a0 a1 false) else (if 0 < (a0.size : Int) then (if (bt a0 0) = 33 then (glob_in.j0 k a0 a1 true) else (glob_in.j0 k a0 a1 ((bt a0 0) == 94))) else (none))) = some r := h
  clear h
  have HC3 := Aside0.mk H
  clear H
  go_enter Try.func27, Try.ntmps27
  go_upto_region 1 with (fail)
  go_cut [5] (fun v5 wc => ∃ (kq : Nat) (x5_2 : Bool), v5 = .bool x5_2 ∧ Aside0 (glob_in.j0 kq a0 a1 x5_2 = some r) ∧ Aside0 (kq ≤ k) ∧ Drawn0 w wc)
  case first =>
    have H := HC3.out
    clear HC3
    by_cases c4 : a0.toList = ([] : List UInt8)
    · rw [if_pos c4] at H
      have c4b0 : (a0.toList == ([] : List UInt8)) = true := beq_iff_eq.mpr c4
      have c4b1 : (a0.toList != ([] : List UInt8)) = false := bne_eq_false_iff_eq.mpr c4
      clear c4
      (first | rw [c4b0] | (simp only [i64_w, i32_w]; rw [c4b0]) | skip)
      have H' := Aside0.mk H
      clear H
      go_wp2
      go_meet
      case rel => exact ⟨_, (false), (by first | rfl | (simp; done) | (simp [wrap64]; done) | (simp [*]; done)), H', ⟨by first | omega | exact Nat.le_refl _⟩, by repeat (first | exact Drawn0.refl _ | apply Drawn0.step)⟩
    · rw [if_neg c4] at H
      have c4b0 : (a0.toList == ([] : List UInt8)) = false := beq_eq_false_iff_ne.mpr c4
      have c4b1 : (a0.toList != ([] : List UInt8)) = true := bne_iff_ne.mpr c4
      (first | rw [c4b0] | (simp only [i64_w, i32_w]; rw [c4b0]) | skip)
      by_cases c5 : 0 < (a0.size : Int)
      · rw [if_pos c5] at H
        have c5b0 : decide (0 < (a0.size : Int)) = true := decide_eq_true c5
        have c5b1 : decide (0 < a0.size) = true := decide_eq_true (by omega)
        clear c5
        by_cases c7 : (bt a0 0) = 33
        · rw [if_pos c7] at H
          have c7b0 : ((bt a0 0) == 33) = true := beq_iff_eq.mpr c7
          have c7b1 : ((bt a0 0) != 33) = false := bne_eq_false_iff_eq.mpr c7
          clear c7
          have H' := Aside0.mk H
          clear H
          have p6 : 0 ≤ (0 : Int) := (by omega)
          have q6 : 0 < a0.size := (by have : (0 : Int) < (a0.size : Int) := of_decide_eq_true (by first | (with_reducible assumption) | assumption); omega)
          have hx6 : ∀ h : 0 < a0.size, ((a0[0]'h).toNat : Int) = bt a0 0 := bt_at a0 0
          clear p6
          have qi6 : (0 < (a0.size : Int)) = True := eq_true (of_decide_eq_true (by first | (with_reducible assumption) | assumption))
          replace q6 := eq_true q6
          go_wp2
          go_meet
          case rel => exact ⟨_, (true), (by first | rfl | (simp; done) | (simp [wrap64]; done) | (simp [*]; done)), H', ⟨by first | omega | exact Nat.le_refl _⟩, by repeat (first | exact Drawn0.refl _ | apply Drawn0.step)⟩
        · rw [if_neg c7] at H
          have c7b0 : ((bt a0 0) == 33) = false := beq_eq_false_iff_ne.mpr c7
          have c7b1 : ((bt a0 0) != 33) = true := bne_iff_ne.mpr c7
          have H' := Aside0.mk H
          clear H
          have p6 : 0 ≤ (0 : Int) := (by omega)
          have q6 : 0 < a0.size := (by have : (0 : Int) < (a0.size : Int) := of_decide_eq_true (by first | (with_reducible assumption) | assumption); omega)
          have hx6 : ∀ h : 0 < a0.size, ((a0[0]'h).toNat : Int) = bt a0 0 := bt_at a0 0
          clear p6
          have qi6 : (0 < (a0.size : Int)) = True := eq_true (of_decide_eq_true (by first | (with_reducible assumption) | assumption))
          replace q6 := eq_true q6
          have p8 : 0 ≤ (0 : Int) := (by omega)
          have q8 : 0 < a0.size := (by have : (0 : Int) < (a0.size : Int) := of_decide_eq_true (by first | (with_reducible assumption) | assumption); omega)
          have hx8 : ∀ h : 0 < a0.size, ((a0[0]'h).toNat : Int) = bt a0 0 := bt_at a0 0
          clear p8
          have qi8 : (0 < (a0.size : Int)) = True := eq_true (of_decide_eq_true (by first | (with_reducible assumption) | assumption))
          replace q8 := eq_true q8
          go_wp2
          go_meet
          case rel => exact ⟨_, (((bt a0 0) == 94)), (by first | rfl | (simp; done) | (simp [wrap64]; done) | (simp [*]; done)), H', ⟨by first | omega | exact Nat.le_refl _⟩, by repeat (first | exact Drawn0.refl _ | apply Drawn0.step)⟩
      · rw [if_neg c5] at H
        exact absurd H (by simp)
  case rest =>
    clear HC3
    try clear c2
    try clear p2
    try clear c4
    try clear c4b0
    try clear c4b1
    try clear c5
    try clear c5b0
    try clear c5b1
    try clear p6
    try clear q6
    try clear hx6
    try clear qi6
    try clear c7
    try clear c7b0
    try clear c7b1
    try clear p8
    try clear q8
    try clear hx8
    try clear qi8
    try clear p6
    try clear p8
    try clear q6
    try clear q8
    obtain ⟨kq, x5_2, rfl, HA, HJ2, ⟨mc2, rfl⟩⟩ := hcut
    cases kq with
    | zero => exact absurd HA.out (by simp [glob_in.j0])
    | succ kj2 =>
      have H := HA.out
      clear HA
      simp only [glob_in.j0] at H
      have HC9 := Aside0.mk H
      clear H
      go_upto_if 22 with (fail)
      go_cut [0] (fun v0 wc => ∃ (kq : Nat) (x0_8 : ByteArray), v0 = .string x0_8 ∧ Aside0 (glob_in.j1 kq x0_8 a1 x5_2 = some r) ∧ Aside0 (kq ≤ kj2) ∧ Drawn0 w wc)
      case first =>
        have H := HC9.out
        clear HC9
        by_cases c10 : x5_2 = true
        · subst c10
          have H1 : (if 1 ≤ (a0.size : Int) then (glob_in.j1 kj2 (a0.extract 1 a0.size) a1 true) else (none)) = some r := by rw [if_pos rfl] at H; exact H
          clear H
          have H := H1
          clear H1
          by_cases c11 : 1 ≤ (a0.size : Int)
          · rw [if_pos c11] at H
            have c11b0 := eq_true c11
            have c11b1 : decide (1 ≤ (a0.size : Int)) = true := decide_eq_true c11
            clear c11
            obtain ⟨ji12, hji12⟩ : ∃ j_ : ByteArray, (a0.extract 1 a0.size) = j_ := ⟨_, rfl⟩
            replace H : (glob_in.j1 kj2 ji12 a1 true) = some r := by first | (rw [hji12] at H; exact H) | (simp only [hji12] at H ⊢; exact H) | exact H
            have H' := Aside0.mk H
            clear H
            go_wp2
            go_meet
            case rel => exact ⟨_, (ji12), (by first | rfl | (simp; done) | (simp only [← hji12] <;> (first | rfl | simp)) | (simp [*]; done)), H', ⟨by have := HJ2.out; first | omega | exact Nat.le_refl _⟩, by repeat (first | exact Drawn0.refl _ | apply Drawn0.step)⟩
          · rw [if_neg c11] at H
            exact absurd H (by simp)
        · replace c10 := Bool.eq_false_iff.mpr c10
          subst c10
          have H1 : (glob_in.j1 kj2 a0 a1 false) = some r := by rw [if_neg (show ¬ (false = true) by decide)] at H; exact H
          clear H
          have H := H1
          clear H1
          have H' := Aside0.mk H
          clear H
          go_wp2
          go_meet
          case rel => exact ⟨_, (a0), (by first | rfl | (simp; done) | (simp [wrap64]; done) | (simp [*]; done)), H', ⟨by have := HJ2.out; first | omega | exact Nat.le_refl _⟩, by repeat (first | exact Drawn0.refl _ | apply Drawn0.step)⟩
      case rest =>
        clear HC9
        try clear c1
        try clear c2
        try clear p2
        try clear c4
        try clear c4b0
        try clear c4b1
        try clear c5
        try clear c5b0
        try clear c5b1
        try clear p6
        try clear q6
        try clear hx6
        try clear qi6
        try clear c7
        try clear c7b0
        try clear c7b1
        try clear p8
        try clear q8
        try clear hx8
        try clear qi8
        try clear c10
        try clear c11
        try clear c11b0
        try clear c11b1
        try clear p2
        try clear p6
        try clear p8
        try clear q6
        try clear q8
        obtain ⟨kq, x0_8, rfl, HA, HJ8, ⟨mc8, rfl⟩⟩ := hcut
        cases kq with
        | zero => exact absurd HA.out (by simp [glob_in.j1])
        | succ kj8 =>
          have H := HA.out
          clear HA
          simp only [glob_in.j1] at H
          have H' := Aside0.mk H
          clear H
          go_wp2
          go_loopg [0, 6] kj8 (fun kq v0 v6 w' => ∃ (x0_3 : ByteArray) (x6_3 : Bool), v0 = .string x0_3 ∧ v6 = .bool x6_3 ∧ Aside0 (glob_in.l0 kq x0_3 a1 x5_2 x6_3 = some r) ∧ Aside0 (kq ≤ kj8) ∧ Drawn0 w w')
          case atStart => exact ⟨(x0_8), (false), (by first | rfl | (simp; done) | (simp [wrap64]; done) | (simp [*]; done)), (by first | rfl | (simp; done) | (simp [wrap64]; done) | (simp [*]; done)), H', ⟨Nat.le_refl _⟩, by repeat (first | exact Drawn0.refl _ | apply Drawn0.step)⟩
          case round =>
            clear H'
            try clear c1
            try clear c2
            try clear p2
            try clear c4
            try clear c4b0
            try clear c4b1
            try clear c5
            try clear c5b0
            try clear c5b1
            try clear p6
            try clear q6
            try clear hx6
            try clear qi6
            try clear c7
            try clear c7b0
            try clear c7b1
            try clear c8
            try clear p8
            try clear q8
            try clear hx8
            try clear qi8
            try clear c10
            try clear c11
            try clear c11b0
            try clear c11b1
            try clear p2
            try clear p6
            try clear p8
            try clear q6
            try clear q8
            obtain ⟨x0_3, x6_3, rfl, rfl, HA, HK3, ⟨m3, rfl⟩⟩ := hrel
            cases gk with
            | zero => exact absurd HA.out (by simp [glob_in.l0])
            | succ k3 =>
              have H := HA.out
              clear HA
              simp only [glob_in.l0] at H
              by_cases c13 : x0_3.toList = ([] : List UInt8)
              · rw [if_pos c13] at H
                have c13b0 : (x0_3.toList == ([] : List UInt8)) = true := beq_iff_eq.mpr c13
                have c13b1 : (x0_3.toList != ([] : List UInt8)) = false := bne_eq_false_iff_eq.mpr c13
                clear c13
                obtain rfl := Option.some.inj H
                go_wp2
                go_ret
                exact ⟨by first | rfl | (simp; done) | (simp [wrap64]; done) | (simp [*]; done), by repeat (first | exact Drawn0.refl _ | apply Drawn0.step)⟩
              · rw [if_neg c13] at H
                have c13b0 : (x0_3.toList == ([] : List UInt8)) = false := beq_eq_false_iff_ne.mpr c13
                have c13b1 : (x0_3.toList != ([] : List UInt8)) = true := bne_iff_ne.mpr c13
                replace H := Option.bind_eq_some_iff.mp H
                obtain ⟨⟨t104, t105⟩, A140, H⟩ := H
                replace H : (if 0 ≤ t105 then (if t105 ≤ (x0_3.size : Int) then (if ((x0_3.extract (t105 : Int).toNat x0_3.size).size : Int) > 1 then (if 0 < ((x0_3.extract (t105 : Int).toNat x0_3.size).size : Int) then (if (bt (x0_3.extract (t105 : Int).toNat x0_3.size) 0) = 45 then (if 1 ≤ ((x0_3.extract (t105 : Int).toNat x0_3.size).size : Int) then ((glob_unit.f ((x0_3.extract (t105 : Int).toNat x0_3.size).extract 1 (x0_3.extract (t105 : Int).toNat x0_3.size).size)).bind fun bt106 => (if 0 ≤ (wrap64 (1 + bt106.2)) then (if (wrap64 (1 + bt106.2)) ≤ ((x0_3.extract (t105 : Int).toNat x0_3.size).size : Int) then (if x6_3 = true then (glob_in.l0 k3 ((x0_3.extract (t105 : Int).toNat x0_3.size).extract ((wrap64 (1 + bt106.2)) : Int).toNat (x0_3.extract (t105 : Int).toNat x0_3.size).size) a1 x5_2 true) else (if t104 ≤ a1 then (glob_in.l0 k3 ((x0_3.extract (t105 : Int).toNat x0_3.size).extract ((wrap64 (1 + bt106.2)) : Int).toNat (x0_3.extract (t105 : Int).toNat x0_3.size).size) a1 x5_2 (decide (a1 ≤ bt106.1))) else (glob_in.l0 k3 ((x0_3.extract (t105 : Int).toNat x0_3.size).extract ((wrap64 (1 + bt106.2)) : Int).toNat (x0_3.extract (t105 : Int).toNat x0_3.size).size) a1 x5_2 false))) else (none)) else (none))) else (none)) else (if x6_3 = true then (glob_in.l0 k3 (x0_3.extract (t105 : Int).toNat x0_3.size) a1 x5_2 true) else (if t104 ≤ a1 then (glob_in.l0 k3 (x0_3.extract (t105 : Int).toNat x0_3.size) a1 x5_2 (decide (a1 ≤ t104))) else (glob_in.l0 k3 (x0_3.extract (t105 : Int).toNat x0_3.size) a1 x5_2 false)))) else (none)) else (if x6_3 = true then (glob_in.l0 k3 (x0_3.extract (t105 : Int).toNat x0_3.size) a1 x5_2 true) else (if t104 ≤ a1 then (glob_in.l0 k3 (x0_3.extract (t105 : Int).toNat x0_3.size) a1 x5_2 (decide (a1 ≤ t104))) else (glob_in.l0 k3 (x0_3.extract (t105 : Int).toNat x0_3.size) a1 x5_2 false)))) else (none)) else (none)) = some r := H
                have A14 := Aside0.mk A140
                clear A140
                by_cases c15 : 0 ≤ t105
                · rw [if_pos c15] at H
                  have c15b0 := eq_true c15
                  have c15b1 : decide (0 ≤ t105) = true := decide_eq_true c15
                  clear c15
                  by_cases c16 : t105 ≤ (x0_3.size : Int)
                  · rw [if_pos c16] at H
                    have c16b0 := eq_true c16
                    have c16b1 : decide (t105 ≤ (x0_3.size : Int)) = true := decide_eq_true c16
                    clear c16
                    obtain ⟨ji17, hji17⟩ : ∃ j_ : ByteArray, (x0_3.extract (t105 : Int).toNat x0_3.size) = j_ := ⟨_, rfl⟩
                    replace H : (if ((ji17).size : Int) > 1 then (if 0 < ((ji17).size : Int) then (if (bt (ji17) 0) = 45 then (if 1 ≤ ((ji17).size : Int) then ((glob_unit.f ((ji17).extract 1 (ji17).size)).bind fun bt106 => (if 0 ≤ (wrap64 (1 + bt106.2)) then (if (wrap64 (1 + bt106.2)) ≤ ((ji17).size : Int) then (if x6_3 = true then (glob_in.l0 k3 ((ji17).extract ((wrap64 (1 + bt106.2)) : Int).toNat (ji17).size) a1 x5_2 true) else (if t104 ≤ a1 then (glob_in.l0 k3 ((ji17).extract ((wrap64 (1 + bt106.2)) : Int).toNat (ji17).size) a1 x5_2 (decide (a1 ≤ bt106.1))) else (glob_in.l0 k3 ((ji17).extract ((wrap64 (1 + bt106.2)) : Int).toNat (ji17).size) a1 x5_2 false))) else (none)) else (none))) else (none)) else (if x6_3 = true then (glob_in.l0 k3 ji17 a1 x5_2 true) else (if t104 ≤ a1 then (glob_in.l0 k3 ji17 a1 x5_2 (decide (a1 ≤ t104))) else (glob_in.l0 k3 ji17 a1 x5_2 false)))) else (none)) else (if x6_3 = true then (glob_in.l0 k3 ji17 a1 x5_2 true) else (if t104 ≤ a1 then (glob_in.l0 k3 ji17 a1 x5_2 (decide (a1 ≤ t104))) else (glob_in.l0 k3 ji17 a1 x5_2 false)))) = some r := by first | (rw [hji17] at H; exact H) | (simp only [hji17] at H ⊢; exact H) | exact H
                    (try rw [hji17] at A14)
                    by_cases c18 : ((ji17).size : Int) > 1
                    · rw [if_pos c18] at H
                      have c18b0 : decide (1 < ((ji17).size : Int)) = true := decide_eq_true c18
                      have c18b1 : decide (1 < (ji17).size) = true := decide_eq_true (by omega)
                      clear c18
                      by_cases c19 : 0 < ((ji17).size : Int)
                      · rw [if_pos c19] at H
                        have c19b0 : decide (0 < ((ji17).size : Int)) = true := decide_eq_true c19
                        have c19b1 : decide (0 < (ji17).size) = true := decide_eq_true (by omega)
                        clear c19
                        by_cases c21 : (bt (ji17) 0) = 45
                        · rw [if_pos c21] at H
                          have c21b0 : ((bt (ji17) 0) == 45) = true := beq_iff_eq.mpr c21
                          have c21b1 : ((bt (ji17) 0) != 45) = false := bne_eq_false_iff_eq.mpr c21
                          clear c21
                          by_cases c22 : 1 ≤ ((ji17).size : Int)
                          · rw [if_pos c22] at H
                            have c22b0 := eq_true c22
                            have c22b1 : decide (1 ≤ ((ji17).size : Int)) = true := decide_eq_true c22
                            clear c22
                            replace H := Option.bind_eq_some_iff.mp H
                            obtain ⟨⟨t106, t107⟩, A230, H⟩ := H
                            replace H : (if 0 ≤ (wrap64 (1 + t107)) then (if (wrap64 (1 + t107)) ≤ ((ji17).size : Int) then (if x6_3 = true then (glob_in.l0 k3 ((ji17).extract ((wrap64 (1 + t107)) : Int).toNat (ji17).size) a1 x5_2 true) else (if t104 ≤ a1 then (glob_in.l0 k3 ((ji17).extract ((wrap64 (1 + t107)) : Int).toNat (ji17).size) a1 x5_2 (decide (a1 ≤ t106))) else (glob_in.l0 k3 ((ji17).extract ((wrap64 (1 + t107)) : Int).toNat (ji17).size) a1 x5_2 false))) else (none)) else (none)) = some r := H
                            have A23 := Aside0.mk A230
                            clear A230
                            obtain ⟨ji24, hji24⟩ : ∃ j_ : Int, (wrap64 (1 + t107)) = j_ := ⟨_, rfl⟩
                            replace H : (if 0 ≤ (ji24) then (if (ji24) ≤ ((ji17).size : Int) then (if x6_3 = true then (glob_in.l0 k3 ((ji17).extract ((ji24) : Int).toNat (ji17).size) a1 x5_2 true) else (if t104 ≤ a1 then (glob_in.l0 k3 ((ji17).extract ((ji24) : Int).toNat (ji17).size) a1 x5_2 (decide (a1 ≤ t106))) else (glob_in.l0 k3 ((ji17).extract ((ji24) : Int).toNat (ji17).size) a1 x5_2 false))) else (none)) else (none)) = some r := by first | (rw [hji24] at H; exact H) | (simp only [hji24] at H ⊢; exact H) | exact H
                            (try rw [hji24] at A14)
                            (try rw [hji24] at A23)
                            have hji24w : (IntKind.i64.wrap (1 + t107)) = ji24 := (i64_w _).trans hji24
                            by_cases c25 : 0 ≤ (ji24)
                            · rw [if_pos c25] at H
                              have c25b0 := eq_true c25
                              have c25b1 : decide (0 ≤ (ji24)) = true := decide_eq_true c25
                              clear c25
                              by_cases c26 : (ji24) ≤ ((ji17).size : Int)
                              · rw [if_pos c26] at H
                                have c26b0 := eq_true c26
                                have c26b1 : decide ((ji24) ≤ ((ji17).size : Int)) = true := decide_eq_true c26
                                clear c26
                                by_cases c27 : x6_3 = true
                                · subst c27
                                  have H1 : (glob_in.l0 k3 ((ji17).extract ((ji24) : Int).toNat (ji17).size) a1 x5_2 true) = some r := by rw [if_pos rfl] at H; exact H
                                  clear H
                                  have H := H1
                                  clear H1
                                  have H' := Aside0.mk H
                                  clear H
                                  go_wp2_with (first | ((with_reducible refine gate_callee (f := 21) rfl ?_); refine goesL_ (some 29) rfl rfl Try.func21 (by kernel_rfl) rfl #[.string x0_3] rfl (by (try simp only [List.map_toArray, List.map_cons, List.map_nil]); first | done | rfl | (simp only [List.length_drop, List.length_take]; rfl)) ?_; (with_reducible refine (glob_unit.calls x0_3 t104 t105 _ A14.out).mono ?_); rintro e w' ⟨rfl, ⟨nd, rfl⟩⟩; refine ⟨_, rfl, ?_⟩; have p20 : 0 ≤ (0 : Int) := (by omega); have q20 : 0 < ji17.size := (by have : (0 : Int) < (ji17.size : Int) := of_decide_eq_true (by first | (with_reducible assumption) | assumption); omega); have hx20 : ∀ h : 0 < ji17.size, ((ji17[0]'h).toNat : Int) = bt ji17 0 := bt_at ji17 0; clear p20; have qi20 : (0 < (ji17.size : Int)) = True := eq_true (of_decide_eq_true (by first | (with_reducible assumption) | assumption)); replace q20 := eq_true q20) | ((with_reducible refine gate_callee (f := 21) rfl ?_); refine goesL_ (some 47) rfl rfl Try.func21 (by kernel_rfl) rfl #[.string ((ji17).extract 1 (ji17).size)] rfl (by (try simp only [List.map_toArray, List.map_cons, List.map_nil]); first | done | (simp only [hji17]; rfl) | rfl | (simp only [List.length_drop, List.length_take]; rfl)) ?_; (with_reducible refine (glob_unit.calls ((ji17).extract 1 (ji17).size) t106 t107 _ A23.out).mono ?_); rintro e w' ⟨rfl, ⟨nd, rfl⟩⟩; refine ⟨_, rfl, ?_⟩))
                                  go_roundg k3
                                  case measure => have := HJ2.out; have := HJ8.out; have := HK3.out; omega
                                  case rel => exact ⟨((ji17).extract ((ji24) : Int).toNat (ji17).size), (true), (by first | rfl | (simp; done) | (simp only [← hji17, ← hji24] <;> (first | rfl | simp)) | (simp [*]; done)), (by first | rfl | (simp; done) | (simp [wrap64]; done) | (simp [*]; done)), H', ⟨by have := HJ2.out; have := HJ8.out; have := HK3.out; omega⟩, by repeat (first | exact Drawn0.refl _ | apply Drawn0.step)⟩
                                · replace c27 := Bool.eq_false_iff.mpr c27
                                  subst c27
                                  have H1 : (if t104 ≤ a1 then (glob_in.l0 k3 ((ji17).extract ((ji24) : Int).toNat (ji17).size) a1 x5_2 (decide (a1 ≤ t106))) else (glob_in.l0 k3 ((ji17).extract ((ji24) : Int).toNat (ji17).size) a1 x5_2 false)) = some r := by rw [if_neg (show ¬ (false = true) by decide)] at H; exact H
                                  clear H
                                  have H := H1
                                  clear H1
                                  by_cases c28 : t104 ≤ a1
                                  · rw [if_pos c28] at H
                                    have c28b0 : decide (t104 ≤ a1) = true := decide_eq_true c28
                                    clear c28
                                    have H' := Aside0.mk H
                                    clear H
                                    go_wp2_with (first | ((with_reducible refine gate_callee (f := 21) rfl ?_); refine goesL_ (some 29) rfl rfl Try.func21 (by kernel_rfl) rfl #[.string x0_3] rfl (by (try simp only [List.map_toArray, List.map_cons, List.map_nil]); first | done | rfl | (simp only [List.length_drop, List.length_take]; rfl)) ?_; (with_reducible refine (glob_unit.calls x0_3 t104 t105 _ A14.out).mono ?_); rintro e w' ⟨rfl, ⟨nd, rfl⟩⟩; refine ⟨_, rfl, ?_⟩; have p20 : 0 ≤ (0 : Int) := (by omega); have q20 : 0 < ji17.size := (by have : (0 : Int) < (ji17.size : Int) := of_decide_eq_true (by first | (with_reducible assumption) | assumption); omega); have hx20 : ∀ h : 0 < ji17.size, ((ji17[0]'h).toNat : Int) = bt ji17 0 := bt_at ji17 0; clear p20; have qi20 : (0 < (ji17.size : Int)) = True := eq_true (of_decide_eq_true (by first | (with_reducible assumption) | assumption)); replace q20 := eq_true q20) | ((with_reducible refine gate_callee (f := 21) rfl ?_); refine goesL_ (some 47) rfl rfl Try.func21 (by kernel_rfl) rfl #[.string ((ji17).extract 1 (ji17).size)] rfl (by (try simp only [List.map_toArray, List.map_cons, List.map_nil]); first | done | (simp only [hji17]; rfl) | rfl | (simp only [List.length_drop, List.length_take]; rfl)) ?_; (with_reducible refine (glob_unit.calls ((ji17).extract 1 (ji17).size) t106 t107 _ A23.out).mono ?_); rintro e w' ⟨rfl, ⟨nd, rfl⟩⟩; refine ⟨_, rfl, ?_⟩))
                                    go_roundg k3
                                    case measure => have := HJ2.out; have := HJ8.out; have := HK3.out; omega
                                    case rel => exact ⟨((ji17).extract ((ji24) : Int).toNat (ji17).size), (decide (a1 ≤ t106)), (by first | rfl | (simp; done) | (simp only [← hji17, ← hji24] <;> (first | rfl | simp)) | (simp [*]; done)), (by first | rfl | (simp; done) | (simp [wrap64]; done) | (simp [*]; done)), H', ⟨by have := HJ2.out; have := HJ8.out; have := HK3.out; omega⟩, by repeat (first | exact Drawn0.refl _ | apply Drawn0.step)⟩
                                  · rw [if_neg c28] at H
                                    have c28b0 : decide (t104 ≤ a1) = false := decide_eq_false c28
                                    clear c28
                                    have H' := Aside0.mk H
                                    clear H
                                    go_wp2_with (first | ((with_reducible refine gate_callee (f := 21) rfl ?_); refine goesL_ (some 29) rfl rfl Try.func21 (by kernel_rfl) rfl #[.string x0_3] rfl (by (try simp only [List.map_toArray, List.map_cons, List.map_nil]); first | done | rfl | (simp only [List.length_drop, List.length_take]; rfl)) ?_; (with_reducible refine (glob_unit.calls x0_3 t104 t105 _ A14.out).mono ?_); rintro e w' ⟨rfl, ⟨nd, rfl⟩⟩; refine ⟨_, rfl, ?_⟩; have p20 : 0 ≤ (0 : Int) := (by omega); have q20 : 0 < ji17.size := (by have : (0 : Int) < (ji17.size : Int) := of_decide_eq_true (by first | (with_reducible assumption) | assumption); omega); have hx20 : ∀ h : 0 < ji17.size, ((ji17[0]'h).toNat : Int) = bt ji17 0 := bt_at ji17 0; clear p20; have qi20 : (0 < (ji17.size : Int)) = True := eq_true (of_decide_eq_true (by first | (with_reducible assumption) | assumption)); replace q20 := eq_true q20) | ((with_reducible refine gate_callee (f := 21) rfl ?_); refine goesL_ (some 47) rfl rfl Try.func21 (by kernel_rfl) rfl #[.string ((ji17).extract 1 (ji17).size)] rfl (by (try simp only [List.map_toArray, List.map_cons, List.map_nil]); first | done | (simp only [hji17]; rfl) | rfl | (simp only [List.length_drop, List.length_take]; rfl)) ?_; (with_reducible refine (glob_unit.calls ((ji17).extract 1 (ji17).size) t106 t107 _ A23.out).mono ?_); rintro e w' ⟨rfl, ⟨nd, rfl⟩⟩; refine ⟨_, rfl, ?_⟩))
                                    go_roundg k3
                                    case measure => have := HJ2.out; have := HJ8.out; have := HK3.out; omega
                                    case rel => exact ⟨((ji17).extract ((ji24) : Int).toNat (ji17).size), (false), (by first | rfl | (simp; done) | (simp only [← hji17, ← hji24] <;> (first | rfl | simp)) | (simp [*]; done)), (by first | rfl | (simp; done) | (simp [wrap64]; done) | (simp [*]; done)), H', ⟨by have := HJ2.out; have := HJ8.out; have := HK3.out; omega⟩, by repeat (first | exact Drawn0.refl _ | apply Drawn0.step)⟩
                              · rw [if_neg c26] at H
                                exact absurd H (by simp)
                            · rw [if_neg c25] at H
                              exact absurd H (by simp)
                          · rw [if_neg c22] at H
                            exact absurd H (by simp)
                        · rw [if_neg c21] at H
                          have c21b0 : ((bt (ji17) 0) == 45) = false := beq_eq_false_iff_ne.mpr c21
                          have c21b1 : ((bt (ji17) 0) != 45) = true := bne_iff_ne.mpr c21
                          by_cases c29 : x6_3 = true
                          · subst c29
                            have H1 : (glob_in.l0 k3 ji17 a1 x5_2 true) = some r := by rw [if_pos rfl] at H; exact H
                            clear H
                            have H := H1
                            clear H1
                            have H' := Aside0.mk H
                            clear H
                            go_wp2_with (first | ((with_reducible refine gate_callee (f := 21) rfl ?_); refine goesL_ (some 29) rfl rfl Try.func21 (by kernel_rfl) rfl #[.string x0_3] rfl (by (try simp only [List.map_toArray, List.map_cons, List.map_nil]); first | done | rfl | (simp only [List.length_drop, List.length_take]; rfl)) ?_; (with_reducible refine (glob_unit.calls x0_3 t104 t105 _ A14.out).mono ?_); rintro e w' ⟨rfl, ⟨nd, rfl⟩⟩; refine ⟨_, rfl, ?_⟩; have p20 : 0 ≤ (0 : Int) := (by omega); have q20 : 0 < ji17.size := (by have : (0 : Int) < (ji17.size : Int) := of_decide_eq_true (by first | (with_reducible assumption) | assumption); omega); have hx20 : ∀ h : 0 < ji17.size, ((ji17[0]'h).toNat : Int) = bt ji17 0 := bt_at ji17 0; clear p20; have qi20 : (0 < (ji17.size : Int)) = True := eq_true (of_decide_eq_true (by first | (with_reducible assumption) | assumption)); replace q20 := eq_true q20))
                            go_roundg k3
                            case measure => have := HJ2.out; have := HJ8.out; have := HK3.out; omega
                            case rel => exact ⟨(ji17), (true), (by first | rfl | (simp; done) | (simp only [← hji17] <;> (first | rfl | simp)) | (simp [*]; done)), (by first | rfl | (simp; done) | (simp [wrap64]; done) | (simp [*]; done)), H', ⟨by have := HJ2.out; have := HJ8.out; have := HK3.out; omega⟩, by repeat (first | exact Drawn0.refl _ | apply Drawn0.step)⟩
                          · replace c29 := Bool.eq_false_iff.mpr c29
                            subst c29
                            have H1 : (if t104 ≤ a1 then (glob_in.l0 k3 ji17 a1 x5_2 (decide (a1 ≤ t104))) else (glob_in.l0 k3 ji17 a1 x5_2 false)) = some r := by rw [if_neg (show ¬ (false = true) by decide)] at H; exact H
                            clear H
                            have H := H1
                            clear H1
                            by_cases c30 : t104 ≤ a1
                            · rw [if_pos c30] at H
                              have c30b0 : decide (t104 ≤ a1) = true := decide_eq_true c30
                              clear c30
                              have H' := Aside0.mk H
                              clear H
                              go_wp2_with (first | ((with_reducible refine gate_callee (f := 21) rfl ?_); refine goesL_ (some 29) rfl rfl Try.func21 (by kernel_rfl) rfl #[.string x0_3] rfl (by (try simp only [List.map_toArray, List.map_cons, List.map_nil]); first | done | rfl | (simp only [List.length_drop, List.length_take]; rfl)) ?_; (with_reducible refine (glob_unit.calls x0_3 t104 t105 _ A14.out).mono ?_); rintro e w' ⟨rfl, ⟨nd, rfl⟩⟩; refine ⟨_, rfl, ?_⟩; have p20 : 0 ≤ (0 : Int) := (by omega); have q20 : 0 < ji17.size := (by have : (0 : Int) < (ji17.size : Int) := of_decide_eq_true (by first | (with_reducible assumption) | assumption); omega); have hx20 : ∀ h : 0 < ji17.size, ((ji17[0]'h).toNat : Int) = bt ji17 0 := bt_at ji17 0; clear p20; have qi20 : (0 < (ji17.size : Int)) = True := eq_true (of_decide_eq_true (by first | (with_reducible assumption) | assumption)); replace q20 := eq_true q20))
                              go_roundg k3
                              case measure => have := HJ2.out; have := HJ8.out; have := HK3.out; omega
                              case rel => exact ⟨(ji17), (decide (a1 ≤ t104)), (by first | rfl | (simp; done) | (simp only [← hji17] <;> (first | rfl | simp)) | (simp [*]; done)), (by first | rfl | (simp; done) | (simp [wrap64]; done) | (simp [*]; done)), H', ⟨by have := HJ2.out; have := HJ8.out; have := HK3.out; omega⟩, by repeat (first | exact Drawn0.refl _ | apply Drawn0.step)⟩
                            · rw [if_neg c30] at H
                              have c30b0 : decide (t104 ≤ a1) = false := decide_eq_false c30
                              clear c30
                              have H' := Aside0.mk H
                              clear H
                              go_wp2_with (first | ((with_reducible refine gate_callee (f := 21) rfl ?_); refine goesL_ (some 29) rfl rfl Try.func21 (by kernel_rfl) rfl #[.string x0_3] rfl (by (try simp only [List.map_toArray, List.map_cons, List.map_nil]); first | done | rfl | (simp only [List.length_drop, List.length_take]; rfl)) ?_; (with_reducible refine (glob_unit.calls x0_3 t104 t105 _ A14.out).mono ?_); rintro e w' ⟨rfl, ⟨nd, rfl⟩⟩; refine ⟨_, rfl, ?_⟩; have p20 : 0 ≤ (0 : Int) := (by omega); have q20 : 0 < ji17.size := (by have : (0 : Int) < (ji17.size : Int) := of_decide_eq_true (by first | (with_reducible assumption) | assumption); omega); have hx20 : ∀ h : 0 < ji17.size, ((ji17[0]'h).toNat : Int) = bt ji17 0 := bt_at ji17 0; clear p20; have qi20 : (0 < (ji17.size : Int)) = True := eq_true (of_decide_eq_true (by first | (with_reducible assumption) | assumption)); replace q20 := eq_true q20))
                              go_roundg k3
                              case measure => have := HJ2.out; have := HJ8.out; have := HK3.out; omega
                              case rel => exact ⟨(ji17), (false), (by first | rfl | (simp; done) | (simp only [← hji17] <;> (first | rfl | simp)) | (simp [*]; done)), (by first | rfl | (simp; done) | (simp [wrap64]; done) | (simp [*]; done)), H', ⟨by have := HJ2.out; have := HJ8.out; have := HK3.out; omega⟩, by repeat (first | exact Drawn0.refl _ | apply Drawn0.step)⟩
                      · rw [if_neg c19] at H
                        exact absurd H (by simp)
                    · rw [if_neg c18] at H
                      have c18b0 : decide (1 < ((ji17).size : Int)) = false := decide_eq_false c18
                      have c18b1 : decide (1 < (ji17).size) = false := decide_eq_false (by omega)
                      clear c18
                      by_cases c31 : x6_3 = true
                      · subst c31
                        have H1 : (glob_in.l0 k3 ji17 a1 x5_2 true) = some r := by rw [if_pos rfl] at H; exact H
                        clear H
                        have H := H1
                        clear H1
                        have H' := Aside0.mk H
                        clear H
                        go_wp2_with (first | ((with_reducible refine gate_callee (f := 21) rfl ?_); refine goesL_ (some 29) rfl rfl Try.func21 (by kernel_rfl) rfl #[.string x0_3] rfl (by (try simp only [List.map_toArray, List.map_cons, List.map_nil]); first | done | rfl | (simp only [List.length_drop, List.length_take]; rfl)) ?_; (with_reducible refine (glob_unit.calls x0_3 t104 t105 _ A14.out).mono ?_); rintro e w' ⟨rfl, ⟨nd, rfl⟩⟩; refine ⟨_, rfl, ?_⟩))
                        go_roundg k3
                        case measure => have := HJ2.out; have := HJ8.out; have := HK3.out; omega
                        case rel => exact ⟨(ji17), (true), (by first | rfl | (simp; done) | (simp only [← hji17] <;> (first | rfl | simp)) | (simp [*]; done)), (by first | rfl | (simp; done) | (simp [wrap64]; done) | (simp [*]; done)), H', ⟨by have := HJ2.out; have := HJ8.out; have := HK3.out; omega⟩, by repeat (first | exact Drawn0.refl _ | apply Drawn0.step)⟩
                      · replace c31 := Bool.eq_false_iff.mpr c31
                        subst c31
                        have H1 : (if t104 ≤ a1 then (glob_in.l0 k3 ji17 a1 x5_2 (decide (a1 ≤ t104))) else (glob_in.l0 k3 ji17 a1 x5_2 false)) = some r := by rw [if_neg (show ¬ (false = true) by decide)] at H; exact H
                        clear H
                        have H := H1
                        clear H1
                        by_cases c32 : t104 ≤ a1
                        · rw [if_pos c32] at H
                          have c32b0 : decide (t104 ≤ a1) = true := decide_eq_true c32
                          clear c32
                          have H' := Aside0.mk H
                          clear H
                          go_wp2_with (first | ((with_reducible refine gate_callee (f := 21) rfl ?_); refine goesL_ (some 29) rfl rfl Try.func21 (by kernel_rfl) rfl #[.string x0_3] rfl (by (try simp only [List.map_toArray, List.map_cons, List.map_nil]); first | done | rfl | (simp only [List.length_drop, List.length_take]; rfl)) ?_; (with_reducible refine (glob_unit.calls x0_3 t104 t105 _ A14.out).mono ?_); rintro e w' ⟨rfl, ⟨nd, rfl⟩⟩; refine ⟨_, rfl, ?_⟩))
                          go_roundg k3
                          case measure => have := HJ2.out; have := HJ8.out; have := HK3.out; omega
                          case rel => exact ⟨(ji17), (decide (a1 ≤ t104)), (by first | rfl | (simp; done) | (simp only [← hji17] <;> (first | rfl | simp)) | (simp [*]; done)), (by first | rfl | (simp; done) | (simp [wrap64]; done) | (simp [*]; done)), H', ⟨by have := HJ2.out; have := HJ8.out; have := HK3.out; omega⟩, by repeat (first | exact Drawn0.refl _ | apply Drawn0.step)⟩
                        · rw [if_neg c32] at H
                          have c32b0 : decide (t104 ≤ a1) = false := decide_eq_false c32
                          clear c32
                          have H' := Aside0.mk H
                          clear H
                          go_wp2_with (first | ((with_reducible refine gate_callee (f := 21) rfl ?_); refine goesL_ (some 29) rfl rfl Try.func21 (by kernel_rfl) rfl #[.string x0_3] rfl (by (try simp only [List.map_toArray, List.map_cons, List.map_nil]); first | done | rfl | (simp only [List.length_drop, List.length_take]; rfl)) ?_; (with_reducible refine (glob_unit.calls x0_3 t104 t105 _ A14.out).mono ?_); rintro e w' ⟨rfl, ⟨nd, rfl⟩⟩; refine ⟨_, rfl, ?_⟩))
                          go_roundg k3
                          case measure => have := HJ2.out; have := HJ8.out; have := HK3.out; omega
                          case rel => exact ⟨(ji17), (false), (by first | rfl | (simp; done) | (simp only [← hji17] <;> (first | rfl | simp)) | (simp [*]; done)), (by first | rfl | (simp; done) | (simp [wrap64]; done) | (simp [*]; done)), H', ⟨by have := HJ2.out; have := HJ8.out; have := HK3.out; omega⟩, by repeat (first | exact Drawn0.refl _ | apply Drawn0.step)⟩
                  · rw [if_neg c16] at H
                    exact absurd H (by simp)
                · rw [if_neg c15] at H
                  exact absurd H (by simp)

end Go.Proofs.Ytpoekljclapbfaa.P
