-- Written by a program of this session (wip/tools) out of the translation, over the kit's print. Not trusted: Lean checks it.
import Derived.Test.YtabdjijlmiobhaaPx0
import Derived.Test.YtabdjijlmiobhaaPx1
import Derived.Test.YtabdjijlmiobhaaPx8
import Derived.Test.YtabdjijlmiobhaaPatRep
namespace Go.Proofs.Ytabdjijlmiobhaa.G
end Go.Proofs.Ytabdjijlmiobhaa.G
namespace Go.Proofs.Ytabdjijlmiobhaa.P0
end Go.Proofs.Ytabdjijlmiobhaa.P0
namespace Go.Proofs.Ytabdjijlmiobhaa.P
open Go.Proofs.Ytabdjijlmiobhaa.G Go.Proofs.Ytabdjijlmiobhaa.P0
open Go.RowKit Go.Proofs.YtabdjijlmiobhaaW.PrintWords Go.Proofs.YtabdjijlmiobhaaW.PrintLast Go.Proofs.YtabdjijlmiobhaaW.PrintMore
attribute [local go_sem] max2_int min2_int max_two min_two max_three min_three max_four min_four   -- for this text's walks alone
set_option linter.unusedVariables false
set_option linter.unusedSimpArgs false

/-! ### wainwrightlaw02_PatternWords: function 10 -/
mutual
def wainwrightlaw02_PatternWords.l0 : Nat → List Int → Int → Option (Bool)
  | 0, _, _ => none
  | k + 1, x0, x3 => if x3 < (x0.length : Int) then (wainwrightlaw02_PatternWords.j1 k x0 x3 (decide (x3 < 30))) else (wainwrightlaw02_PatternWords.j1 k x0 x3 false)
def wainwrightlaw02_PatternWords.j1 : Nat → List Int → Int → Bool → Option (Bool)
  | 0, _, _, _ => none
  | k + 1, x0, x3, x19 => if x19 = true then (if 0 ≤ x3 then (if x3 < (x0.length : Int) then ((wainwrightlaw00_Word.f (rd x0 x3)).bind fun t173 => ((pattern_Replace.f (⟨#[37, 46, 99]⟩ : ByteArray) (⟨#[111, 47, 37, 46, 111]⟩ : ByteArray) t173).bind fun bt174 => (if (t173.size : Int) ≥ 2 then (if 0 ≤ (wrap64 ((t173.size : Int) - 2)) then (if (wrap64 ((t173.size : Int) - 2)) ≤ (t173.size : Int) then (wainwrightlaw02_PatternWords.j2 k x0 x3 t173 bt174.1 bt174.2 ((t173.extract ((wrap64 ((t173.size : Int) - 2)) : Int).toNat t173.size).toList == ([46, 99] : List UInt8))) else (none)) else (none)) else (wainwrightlaw02_PatternWords.j2 k x0 x3 t173 bt174.1 bt174.2 false)))) else (none)) else (none)) else ((wainwrightlaw02_awake.f).bind fun t171 => (some t171))
def wainwrightlaw02_PatternWords.j2 : Nat → List Int → Int → ByteArray → ByteArray → Bool → Bool → Option (Bool)
  | 0, _, _, _, _, _, _ => none
  | k + 1, x0, x3, x4, x5, x6, x7 => if (x6 != x7) = true then (wainwrightlaw02_PatternWords.j3 k x0 x3 x4 true) else (if x7 = true then (if 0 ≤ (wrap64 ((x4.size : Int) - 2)) then (if (wrap64 ((x4.size : Int) - 2)) ≤ (x4.size : Int) then (if 2 + (x4.extract 0 ((wrap64 ((x4.size : Int) - 2)) : Int).toNat).size ≤ 9223372036854775807 then (if ((⟨#[111, 47]⟩ : ByteArray) ++ (x4.extract 0 ((wrap64 ((x4.size : Int) - 2)) : Int).toNat)).size + 2 ≤ 9223372036854775807 then (wainwrightlaw02_PatternWords.j3 k x0 x3 x4 (x5.toList != (((⟨#[111, 47]⟩ : ByteArray) ++ (x4.extract 0 ((wrap64 ((x4.size : Int) - 2)) : Int).toNat)) ++ (⟨#[46, 111]⟩ : ByteArray)).toList)) else (none)) else (none)) else (none)) else (none)) else (if x5.toList = x4.toList then (wainwrightlaw02_PatternWords.j3 k x0 x3 x4 false) else (wainwrightlaw02_PatternWords.j3 k x0 x3 x4 true)))
def wainwrightlaw02_PatternWords.j3 : Nat → List Int → Int → ByteArray → Bool → Option (Bool)
  | 0, _, _, _, _ => none
  | k + 1, x0, x3, x4, x68 => if x68 = true then (some false) else ((pattern_Replace.f (⟨#[37]⟩ : ByteArray) (⟨#[60, 37]⟩ : ByteArray) x4).bind fun bt176 => ((pattern_Replace.f (⟨#[102, 111, 111]⟩ : ByteArray) (⟨#[37, 98, 97, 114]⟩ : ByteArray) x4).bind fun bt178 => (if 1 + x4.size ≤ 9223372036854775807 then (if bt176.1.toList = ((⟨#[60]⟩ : ByteArray) ++ x4).toList then (if bt176.2 = true then (if (bt178.2 != (x4.toList == ([102, 111, 111] : List UInt8))) = true then (some false) else (if bt178.2 = true then (if bt178.1.toList = ([37, 98, 97, 114] : List UInt8) then (wainwrightlaw02_PatternWords.l0 k x0 (wrap64 (x3 + 1))) else (some false)) else (if bt178.1.toList = x4.toList then (wainwrightlaw02_PatternWords.l0 k x0 (wrap64 (x3 + 1))) else (some false)))) else (some false)) else (some false)) else (none))))
end
def wainwrightlaw02_PatternWords.f (k : Nat) (l0 : List Int) : Option (Bool) := wainwrightlaw02_PatternWords.l0 k l0 0
theorem wainwrightlaw02_PatternWords.mono_l : ∀ k, (∀ y0 y1, LeO (wainwrightlaw02_PatternWords.l0 k y0 y1) (wainwrightlaw02_PatternWords.l0 (k + 1) y0 y1)) ∧ (∀ y0 y1 y2, LeO (wainwrightlaw02_PatternWords.j1 k y0 y1 y2) (wainwrightlaw02_PatternWords.j1 (k + 1) y0 y1 y2)) ∧ (∀ y0 y1 y2 y3 y4 y5, LeO (wainwrightlaw02_PatternWords.j2 k y0 y1 y2 y3 y4 y5) (wainwrightlaw02_PatternWords.j2 (k + 1) y0 y1 y2 y3 y4 y5)) ∧ (∀ y0 y1 y2 y3, LeO (wainwrightlaw02_PatternWords.j3 k y0 y1 y2 y3) (wainwrightlaw02_PatternWords.j3 (k + 1) y0 y1 y2 y3))
  | 0 => ⟨fun _ _ r h => by simp [wainwrightlaw02_PatternWords.l0] at h, fun _ _ _ r h => by simp [wainwrightlaw02_PatternWords.j1] at h, fun _ _ _ _ _ _ r h => by simp [wainwrightlaw02_PatternWords.j2] at h, fun _ _ _ _ r h => by simp [wainwrightlaw02_PatternWords.j3] at h⟩
  | k + 1 => by
    obtain ⟨ih0, ih1, ih2, ih3⟩ := wainwrightlaw02_PatternWords.mono_l k
    refine ⟨?_, ?_, ?_, ?_⟩
    · intro y0 y1
      unfold wainwrightlaw02_PatternWords.l0
      repeat' first
      | (with_reducible exact ih0 _ _)
      | (with_reducible exact ih1 _ _ _)
      | (with_reducible exact ih2 _ _ _ _ _ _)
      | (with_reducible exact ih3 _ _ _ _)
      | (with_reducible exact LeO.refl _)
      | (with_reducible exact LeO.none _)
      | (with_reducible refine LeO.ite ?_ ?_)
      | (with_reducible refine LeO.bind ?_ (fun _ => ?_))
      | exact ih0 _ _
      | exact ih1 _ _ _
      | exact ih2 _ _ _ _ _ _
      | exact ih3 _ _ _ _
      | exact LeO.none _
      | refine LeO.ite ?_ ?_
      | refine LeO.bind ?_ (fun _ => ?_)
    · intro y0 y1 y2
      unfold wainwrightlaw02_PatternWords.j1
      repeat' first
      | (with_reducible exact ih0 _ _)
      | (with_reducible exact ih1 _ _ _)
      | (with_reducible exact ih2 _ _ _ _ _ _)
      | (with_reducible exact ih3 _ _ _ _)
      | (with_reducible exact LeO.refl _)
      | (with_reducible exact LeO.none _)
      | (with_reducible refine LeO.ite ?_ ?_)
      | (with_reducible refine LeO.bind ?_ (fun _ => ?_))
      | exact ih0 _ _
      | exact ih1 _ _ _
      | exact ih2 _ _ _ _ _ _
      | exact ih3 _ _ _ _
      | exact LeO.none _
      | refine LeO.ite ?_ ?_
      | refine LeO.bind ?_ (fun _ => ?_)
    · intro y0 y1 y2 y3 y4 y5
      unfold wainwrightlaw02_PatternWords.j2
      repeat' first
      | (with_reducible exact ih0 _ _)
      | (with_reducible exact ih1 _ _ _)
      | (with_reducible exact ih2 _ _ _ _ _ _)
      | (with_reducible exact ih3 _ _ _ _)
      | (with_reducible exact LeO.refl _)
      | (with_reducible exact LeO.none _)
      | (with_reducible refine LeO.ite ?_ ?_)
      | (with_reducible refine LeO.bind ?_ (fun _ => ?_))
      | exact ih0 _ _
      | exact ih1 _ _ _
      | exact ih2 _ _ _ _ _ _
      | exact ih3 _ _ _ _
      | exact LeO.none _
      | refine LeO.ite ?_ ?_
      | refine LeO.bind ?_ (fun _ => ?_)
    · intro y0 y1 y2 y3
      unfold wainwrightlaw02_PatternWords.j3
      repeat' first
      | (with_reducible exact ih0 _ _)
      | (with_reducible exact ih1 _ _ _)
      | (with_reducible exact ih2 _ _ _ _ _ _)
      | (with_reducible exact ih3 _ _ _ _)
      | (with_reducible exact LeO.refl _)
      | (with_reducible exact LeO.none _)
      | (with_reducible refine LeO.ite ?_ ?_)
      | (with_reducible refine LeO.bind ?_ (fun _ => ?_))
      | exact ih0 _ _
      | exact ih1 _ _ _
      | exact ih2 _ _ _ _ _ _
      | exact ih3 _ _ _ _
      | exact LeO.none _
      | refine LeO.ite ?_ ?_
      | refine LeO.bind ?_ (fun _ => ?_)
theorem wainwrightlaw02_PatternWords.mono : ∀ a0 k, LeO (wainwrightlaw02_PatternWords.f k a0) (wainwrightlaw02_PatternWords.f (k + 1) a0) := by
  intro a0 k
  obtain ⟨ih0, ih1, ih2, ih3⟩ := wainwrightlaw02_PatternWords.mono_l k
  unfold wainwrightlaw02_PatternWords.f
  repeat' first
      | (with_reducible exact ih0 _ _)
      | (with_reducible exact ih1 _ _ _)
      | (with_reducible exact ih2 _ _ _ _ _ _)
      | (with_reducible exact ih3 _ _ _ _)
      | (with_reducible exact LeO.refl _)
      | (with_reducible exact LeO.none _)
      | (with_reducible refine LeO.ite ?_ ?_)
      | (with_reducible refine LeO.bind ?_ (fun _ => ?_))
      | exact ih0 _ _
      | exact ih1 _ _ _
      | exact ih2 _ _ _ _ _ _
      | exact ih3 _ _ _ _
      | exact LeO.none _
      | refine LeO.ite ?_ ?_
      | refine LeO.bind ?_ (fun _ => ?_)
set_option maxHeartbeats 8000000 in
set_option maxRecDepth 100000 in
theorem wainwrightlaw02_PatternWords.calls (k : Nat) (A0 : Option Addr) (c0 : Nat) (l0 : List Int) (r : Bool) (hr_ : Hid (r = true)) (w : World) (hr0 : Kd.C (Kd.int .i64) w A0 l0.length l0) (hc0 : l0.length ≤ c0) (h : wainwrightlaw02_PatternWords.f k l0 = some r) :
    Calls Try.prog 10 #[.slice A0 l0.length c0] w fun e w' => e = .returned (.bool r) ∧ Below w.heap.size w w' := by
  have HR0 := Aside0.mk hr0
  have HC0 := Aside0.mk hc0
  clear hr0 hc0
  have HB := Aside0.mk (Below.refl w.heap.size w)
  have H : (wainwrightlaw02_PatternWords.l0 k l0 0) = some r := h
  clear h
  have H' := Aside0.mk H
  clear H
  go_enter Try.func10, Try.ntmps10
  go_wp2
  go_loopg [3] k (fun kq v3 w' => ∃ (x3_1 : Int), v3 = .int .i64 x3_1 ∧ Aside0 (wainwrightlaw02_PatternWords.l0 kq l0 x3_1 = some r) ∧ Aside0 (kq ≤ k) ∧ Aside0 (Below w.heap.size w w'))
  case atStart => exact ⟨(0), (by first | rfl | (simp; done) | (simp [*]; done)), H', ⟨Nat.le_refl _⟩, ⟨by repeat (first | (with_reducible first | exact HB.out | apply below_alloc | apply pw_below_drewN | apply below_drew1) | exact HB.out)⟩⟩
  case round =>
    clear H'
    try clear c1
    obtain ⟨x3_1, rfl, HA, HK1, HB⟩ := hrel
    cases gk with
    | zero => exact absurd HA.out (by simp [wainwrightlaw02_PatternWords.l0])
    | succ k1 =>
      have H := HA.out
      clear HA
      simp only [wainwrightlaw02_PatternWords.l0] at H
      have HC2 := Aside0.mk H
      clear H
      go_upto_region 2 with (fail)
      go_cut [19] (fun v19 wc => ∃ (kq : Nat) (x19_1 : Bool), v19 = .bool x19_1 ∧ Aside0 (wainwrightlaw02_PatternWords.j1 kq l0 x3_1 x19_1 = some r) ∧ Aside0 (kq ≤ k1) ∧ Aside0 (Below w.heap.size w wc))
      case first =>
        have H := HC2.out
        clear HC2
        by_cases c3 : x3_1 < (l0.length : Int)
        · rw [if_pos c3] at H
          have c3b0 : decide (x3_1 < (l0.length : Int)) = true := decide_eq_true c3
          clear c3
          (first | rw [c3b0] | (simp only [i64_w, i32_w]; rw [c3b0]) | skip)
          have H' := Aside0.mk H
          clear H
          go_wp2
          go_meet
          case rel => exact ⟨_, (decide (x3_1 < 30)), (by first | rfl | (simp; done) | (simp [*]; done)), H', ⟨by have := HK1.out; first | omega | exact Nat.le_refl _⟩, ⟨by repeat (first | (with_reducible first | exact HB.out | apply below_alloc | apply pw_below_drewN | apply below_drew1) | exact HB.out)⟩⟩
        · rw [if_neg c3] at H
          have c3b0 : decide (x3_1 < (l0.length : Int)) = false := decide_eq_false c3
          clear c3
          (first | rw [c3b0] | (simp only [i64_w, i32_w]; rw [c3b0]) | skip)
          have H' := Aside0.mk H
          clear H
          go_wp2
          go_meet
          case rel => exact ⟨_, (false), (by first | rfl | (simp; done) | (simp [*]; done)), H', ⟨by have := HK1.out; first | omega | exact Nat.le_refl _⟩, ⟨by repeat (first | (with_reducible first | exact HB.out | apply below_alloc | apply pw_below_drewN | apply below_drew1) | exact HB.out)⟩⟩
      case rest =>
        clear HC2
        try clear c1
        try clear p2
        try clear c3
        try clear c3b0
        obtain ⟨kq, x19_1, rfl, HA, HJ1, HB⟩ := hcut
        cases kq with
        | zero => exact absurd HA.out (by simp [wainwrightlaw02_PatternWords.j1])
        | succ kj1 =>
          have H := HA.out
          clear HA
          simp only [wainwrightlaw02_PatternWords.j1] at H
          by_cases c4 : x19_1 = true
          · subst c4
            have H1 : (if 0 ≤ x3_1 then (if x3_1 < (l0.length : Int) then ((wainwrightlaw00_Word.f (rd l0 x3_1)).bind fun t173 => ((pattern_Replace.f (⟨#[37, 46, 99]⟩ : ByteArray) (⟨#[111, 47, 37, 46, 111]⟩ : ByteArray) t173).bind fun bt174 => (if (t173.size : Int) ≥ 2 then (if 0 ≤ (wrap64 ((t173.size : Int) - 2)) then (if (wrap64 ((t173.size : Int) - 2)) ≤ (t173.size : Int) then (wainwrightlaw02_PatternWords.j2 kj1 l0 x3_1 t173 bt174.1 bt174.2 ((t173.extract ((wrap64 ((t173.size : Int) - 2)) : Int).toNat t173.size).toList == ([46, 99] : List UInt8))) else (none)) else (none)) else (wainwrightlaw02_PatternWords.j2 kj1 l0 x3_1 t173 bt174.1 bt174.2 false)))) else (none)) else (none)) = some r := by rw [if_pos rfl] at H; exact H
            clear H
            have H := H1
            clear H1
            by_cases c5 : 0 ≤ x3_1
            · rw [if_pos c5] at H
              have c5b0 : decide (0 ≤ x3_1) = true := decide_eq_true c5
              clear c5
              by_cases c6 : x3_1 < (l0.length : Int)
              · rw [if_pos c6] at H
                have c6b0 : decide (x3_1 < (l0.length : Int)) = true := decide_eq_true c6
                clear c6
                replace H := Option.bind_eq_some_iff.mp H
                obtain ⟨t173, A70, H⟩ := H
                replace H : ((pattern_Replace.f (⟨#[37, 46, 99]⟩ : ByteArray) (⟨#[111, 47, 37, 46, 111]⟩ : ByteArray) t173).bind fun bt174 => (if (t173.size : Int) ≥ 2 then (if 0 ≤ (wrap64 ((t173.size : Int) - 2)) then (if (wrap64 ((t173.size : Int) - 2)) ≤ (t173.size : Int) then (wainwrightlaw02_PatternWords.j2 kj1 l0 x3_1 t173 bt174.1 bt174.2 ((t173.extract ((wrap64 ((t173.size : Int) - 2)) : Int).toNat t173.size).toList == ([46, 99] : List UInt8))) else (none)) else (none)) else (wainwrightlaw02_PatternWords.j2 kj1 l0 x3_1 t173 bt174.1 bt174.2 false))) = some r := H
                have A7 := Aside0.mk A70
                clear A70
                replace H := Option.bind_eq_some_iff.mp H
                obtain ⟨⟨t174, t175⟩, A80, H⟩ := H
                replace H : (if (t173.size : Int) ≥ 2 then (if 0 ≤ (wrap64 ((t173.size : Int) - 2)) then (if (wrap64 ((t173.size : Int) - 2)) ≤ (t173.size : Int) then (wainwrightlaw02_PatternWords.j2 kj1 l0 x3_1 t173 t174 t175 ((t173.extract ((wrap64 ((t173.size : Int) - 2)) : Int).toNat t173.size).toList == ([46, 99] : List UInt8))) else (none)) else (none)) else (wainwrightlaw02_PatternWords.j2 kj1 l0 x3_1 t173 t174 t175 false)) = some r := H
                have A8 := Aside0.mk A80
                clear A80
                have HC9 := Aside0.mk H
                clear H
                have p172 : 0 ≤ (x3_1 : Int) := of_decide_eq_true (by first | (with_reducible assumption) | assumption)
                have q172 : x3_1 < (l0.length : Int) := of_decide_eq_true (by first | (with_reducible assumption) | assumption)
                obtain ⟨ad172, e172, hx172_0⟩ := Kd.at_int HR0.out x3_1 p172 q172
                cases e172
                replace hx172_0 := (HB.out.cell (World.block_lt_of_cell? w _ hx172_0)).trans hx172_0
                replace p172 := eq_true p172
                replace q172 := eq_true q172
                go_upto_region 6 with (first | ((with_reducible refine gate_callee (f := 31) rfl ?_); refine goesL_ (some 26) rfl rfl Try.func31 (by kernel_rfl) rfl #[.int .i64 (rd l0 x3_1)] rfl (by (try simp only [List.map_toArray, List.map_cons, List.map_nil]); first | done | rfl | (simp only [List.length_drop, List.length_take]; rfl)) ?_; (with_reducible refine (wainwrightlaw00_Word.calls (rd l0 x3_1) t173 _ A7.out).mono ?_); rintro e w' ⟨rfl, ⟨nd, rfl⟩⟩; refine ⟨_, rfl, ?_⟩) | ((with_reducible refine gate_callee (f := 27) rfl ?_); refine goesL_ (some 29) rfl rfl Try.func27 (by kernel_rfl) rfl #[.string (⟨#[37, 46, 99]⟩ : ByteArray), .string (⟨#[111, 47, 37, 46, 111]⟩ : ByteArray), .string t173] rfl (by (try simp only [List.map_toArray, List.map_cons, List.map_nil]); first | done | rfl | (simp only [List.length_drop, List.length_take]; rfl)) ?_; (with_reducible refine (pattern_Replace.calls (⟨#[37, 46, 99]⟩ : ByteArray) (⟨#[111, 47, 37, 46, 111]⟩ : ByteArray) t173 t174 t175 _ A8.out).mono ?_); rintro e w10 ⟨rfl, hb⟩; refine ⟨_, rfl, ?_⟩; have n0_ := Aside0.mk (below_step (by repeat (first | (with_reducible first | exact HB.out | apply below_alloc | apply pw_below_drewN | apply below_drew1) | exact HB.out)) hb); clear HB; have HB := n0_; clear n0_; (try clear hb); (try clear hb2); (try clear hk); (try clear hi)))
                (try simp only [Act.put, List.setIfInBounds_toArray, List.set_cons_zero, List.set_cons_succ])
                go_cut [7] (fun v7 wc => ∃ (kq : Nat) (x7_8 : Bool), v7 = .bool x7_8 ∧ Aside0 (wainwrightlaw02_PatternWords.j2 kq l0 x3_1 t173 t174 t175 x7_8 = some r) ∧ Aside0 (kq ≤ kj1) ∧ Aside0 (Below w.heap.size w wc))
                case first =>
                  have H := HC9.out
                  clear HC9
                  by_cases c11 : (t173.size : Int) ≥ 2
                  · rw [if_pos c11] at H
                    have c11b0 : decide (2 ≤ (t173.size : Int)) = true := decide_eq_true c11
                    have c11b1 : decide (2 ≤ t173.size) = true := decide_eq_true (by omega)
                    clear c11
                    (first | rw [c11b0] | (simp only [i64_w, i32_w]; rw [c11b0]) | skip)
                    obtain ⟨ji12, hji12⟩ : ∃ j_ : Int, (wrap64 ((t173.size : Int) - 2)) = j_ := ⟨_, rfl⟩
                    replace H : (if 0 ≤ (ji12) then (if (ji12) ≤ (t173.size : Int) then (wainwrightlaw02_PatternWords.j2 kj1 l0 x3_1 t173 t174 t175 ((t173.extract ((ji12) : Int).toNat t173.size).toList == ([46, 99] : List UInt8))) else (none)) else (none)) = some r := by first | (rw [hji12] at H; exact H) | (simp only [hji12] at H ⊢; exact H)
                    have hji12w : (IntKind.i64.wrap ((t173.size : Int) - 2)) = ji12 := (i64_w _).trans hji12
                    by_cases c13 : 0 ≤ (ji12)
                    · rw [if_pos c13] at H
                      have c13b0 := eq_true c13
                      have c13b1 : decide (0 ≤ (ji12)) = true := decide_eq_true c13
                      clear c13
                      by_cases c14 : (ji12) ≤ (t173.size : Int)
                      · rw [if_pos c14] at H
                        have c14b0 := eq_true c14
                        have c14b1 : decide ((ji12) ≤ (t173.size : Int)) = true := decide_eq_true c14
                        clear c14
                        have H' := Aside0.mk H
                        clear H
                        go_wp2
                        go_meet
                        case rel => exact ⟨_, (((t173.extract ((ji12) : Int).toNat t173.size).toList == ([46, 99] : List UInt8))), (by first | rfl | (simp; done) | (simp only [← hji12] <;> (first | rfl | simp)) | (simp [*]; done)), H', ⟨by have := HK1.out; have := HJ1.out; first | omega | exact Nat.le_refl _⟩, ⟨by repeat (first | (with_reducible first | exact HB.out | apply below_alloc | apply pw_below_drewN | apply below_drew1) | exact HB.out)⟩⟩
                      · rw [if_neg c14] at H
                        exact absurd H (by simp)
                    · rw [if_neg c13] at H
                      exact absurd H (by simp)
                  · rw [if_neg c11] at H
                    have c11b0 : decide (2 ≤ (t173.size : Int)) = false := decide_eq_false c11
                    have c11b1 : decide (2 ≤ t173.size) = false := decide_eq_false (by omega)
                    clear c11
                    (first | rw [c11b0] | (simp only [i64_w, i32_w]; rw [c11b0]) | skip)
                    have H' := Aside0.mk H
                    clear H
                    go_wp2
                    go_meet
                    case rel => exact ⟨_, (false), (by first | rfl | (simp; done) | (simp [*]; done)), H', ⟨by have := HK1.out; have := HJ1.out; first | omega | exact Nat.le_refl _⟩, ⟨by repeat (first | (with_reducible first | exact HB.out | apply below_alloc | apply pw_below_drewN | apply below_drew1) | exact HB.out)⟩⟩
                case rest =>
                  clear HC9
                  try clear c1
                  try clear p1
                  try clear q1
                  try clear hx1
                  try clear c2
                  try clear p2
                  try clear c3
                  try clear c3b0
                  try clear c4
                  try clear c5
                  try clear c5b0
                  try clear c6
                  try clear c6b0
                  try clear p6
                  try clear c10
                  try clear c11
                  try clear c11b0
                  try clear c11b1
                  try clear c13
                  try clear c13b0
                  try clear c13b1
                  try clear c14
                  try clear c14b0
                  try clear c14b1
                  try clear hx172_0
                  try clear p172
                  try clear p2
                  try clear q172
                  obtain ⟨kq, x7_8, rfl, HA, HJ8, HB⟩ := hcut
                  cases kq with
                  | zero => exact absurd HA.out (by simp [wainwrightlaw02_PatternWords.j2])
                  | succ kj8 =>
                    have H := HA.out
                    clear HA
                    simp only [wainwrightlaw02_PatternWords.j2] at H
                    have HC15 := Aside0.mk H
                    clear H
                    go_upto_region 7 with (fail)
                    go_cut [68] (fun v68 wc => ∃ (kq : Nat) (x68_14 : Bool), v68 = .bool x68_14 ∧ Aside0 (wainwrightlaw02_PatternWords.j3 kq l0 x3_1 t173 x68_14 = some r) ∧ Aside0 (kq ≤ kj8) ∧ Aside0 (Below w.heap.size w wc))
                    case first =>
                      have H := HC15.out
                      clear HC15
                      by_cases c16 : (t175 != x7_8) = true
                      · rw [if_pos c16] at H
                        have c16b0 : (t175 != x7_8) = true := c16
                        (try (have c16b1 : decide (t175 = x7_8) = false := by simpa using c16))
                        (try (have c16b2 : (t175 == x7_8) = false := by simpa using c16))
                        (try (have c16b3 : ¬ (t175 = x7_8) := by simpa using c16))
                        clear c16
                        (first | rw [c16b0] | (simp only [i64_w, i32_w]; rw [c16b0]) | skip)
                        have H' := Aside0.mk H
                        clear H
                        go_wp2
                        go_meet
                        case rel => exact ⟨_, (true), (by first | rfl | (simp; done) | (simp [*]; done)), H', ⟨by have := HK1.out; have := HJ1.out; have := HJ8.out; first | omega | exact Nat.le_refl _⟩, ⟨by repeat (first | (with_reducible first | exact HB.out | apply below_alloc | apply pw_below_drewN | apply below_drew1) | exact HB.out)⟩⟩
                      · rw [if_neg c16] at H
                        have c16b0 : (t175 != x7_8) = false := by simpa using c16
                        (try (have c16b1 : decide (t175 = x7_8) = true := by simpa using c16))
                        (try (have c16b2 : (t175 == x7_8) = true := by simpa using c16))
                        clear c16
                        (first | rw [c16b0] | (simp only [i64_w, i32_w]; rw [c16b0]) | skip)
                        by_cases c17 : x7_8 = true
                        · subst c17
                          have H1 : (if 0 ≤ (wrap64 ((t173.size : Int) - 2)) then (if (wrap64 ((t173.size : Int) - 2)) ≤ (t173.size : Int) then (if 2 + (t173.extract 0 ((wrap64 ((t173.size : Int) - 2)) : Int).toNat).size ≤ 9223372036854775807 then (if ((⟨#[111, 47]⟩ : ByteArray) ++ (t173.extract 0 ((wrap64 ((t173.size : Int) - 2)) : Int).toNat)).size + 2 ≤ 9223372036854775807 then (wainwrightlaw02_PatternWords.j3 kj8 l0 x3_1 t173 (t174.toList != (((⟨#[111, 47]⟩ : ByteArray) ++ (t173.extract 0 ((wrap64 ((t173.size : Int) - 2)) : Int).toNat)) ++ (⟨#[46, 111]⟩ : ByteArray)).toList)) else (none)) else (none)) else (none)) else (none)) = some r := by rw [if_pos rfl] at H; exact H
                          clear H
                          have H := H1
                          clear H1
                          obtain ⟨ji18, hji18⟩ : ∃ j_ : Int, (wrap64 ((t173.size : Int) - 2)) = j_ := ⟨_, rfl⟩
                          replace H : (if 0 ≤ (ji18) then (if (ji18) ≤ (t173.size : Int) then (if 2 + (t173.extract 0 ((ji18) : Int).toNat).size ≤ 9223372036854775807 then (if ((⟨#[111, 47]⟩ : ByteArray) ++ (t173.extract 0 ((ji18) : Int).toNat)).size + 2 ≤ 9223372036854775807 then (wainwrightlaw02_PatternWords.j3 kj8 l0 x3_1 t173 (t174.toList != (((⟨#[111, 47]⟩ : ByteArray) ++ (t173.extract 0 ((ji18) : Int).toNat)) ++ (⟨#[46, 111]⟩ : ByteArray)).toList)) else (none)) else (none)) else (none)) else (none)) = some r := by first | (rw [hji18] at H; exact H) | (simp only [hji18] at H ⊢; exact H)
                          have hji18w : (IntKind.i64.wrap ((t173.size : Int) - 2)) = ji18 := (i64_w _).trans hji18
                          by_cases c19 : 0 ≤ (ji18)
                          · rw [if_pos c19] at H
                            have c19b0 := eq_true c19
                            have c19b1 : decide (0 ≤ (ji18)) = true := decide_eq_true c19
                            clear c19
                            by_cases c20 : (ji18) ≤ (t173.size : Int)
                            · rw [if_pos c20] at H
                              have c20b0 := eq_true c20
                              have c20b1 : decide ((ji18) ≤ (t173.size : Int)) = true := decide_eq_true c20
                              clear c20
                              by_cases c21 : 2 + (t173.extract 0 ((ji18) : Int).toNat).size ≤ 9223372036854775807
                              · rw [if_pos c21] at H
                                have c21b0 := eq_true c21
                                have c21b1 : decide (2 + (t173.extract 0 ((ji18) : Int).toNat).size ≤ 9223372036854775807) = true := decide_eq_true c21
                                try have c21b2 : (9223372036854775807 < 2 + (t173.extract 0 ((ji18) : Int).toNat).size) = False := eq_false (Nat.not_lt.2 c21)
                                (try have c21b3 : (9223372036854775807 < 2 + ji18.toNat) = False := eq_false (by have e0_ : ji18 ≤ (t173.size : Int) := of_decide_eq_true (by assumption); have c_ := c21; (try simp only [ByteArray.size_append, ByteArray.size_extract] at c_); omega))
                                by_cases c22 : ((⟨#[111, 47]⟩ : ByteArray) ++ (t173.extract 0 ((ji18) : Int).toNat)).size + 2 ≤ 9223372036854775807
                                · rw [if_pos c22] at H
                                  have c22b0 := eq_true c22
                                  have c22b1 : decide (((⟨#[111, 47]⟩ : ByteArray) ++ (t173.extract 0 ((ji18) : Int).toNat)).size + 2 ≤ 9223372036854775807) = true := decide_eq_true c22
                                  try have c22b2 : (9223372036854775807 < ((⟨#[111, 47]⟩ : ByteArray) ++ (t173.extract 0 ((ji18) : Int).toNat)).size + 2) = False := eq_false (Nat.not_lt.2 c22)
                                  (try have c22b3 : (9223372036854775807 < 2 + ji18.toNat + 2) = False := eq_false (by have e0_ : ji18 ≤ (t173.size : Int) := of_decide_eq_true (by assumption); have l0_ : (⟨#[111, 47]⟩ : ByteArray).size = 2 := rfl; have c_ := c22; (try simp only [ByteArray.size_append, ByteArray.size_extract] at c_); omega))
                                  have H' := Aside0.mk H
                                  clear H
                                  go_wp2
                                  go_meet
                                  case rel => exact ⟨_, ((t174.toList != (((⟨#[111, 47]⟩ : ByteArray) ++ (t173.extract 0 ((ji18) : Int).toNat)) ++ (⟨#[46, 111]⟩ : ByteArray)).toList)), (by first | rfl | (simp; done) | (simp only [← hji18] <;> (first | rfl | simp)) | (simp [*]; done)), H', ⟨by have := HK1.out; have := HJ1.out; have := HJ8.out; first | omega | exact Nat.le_refl _⟩, ⟨by repeat (first | (with_reducible first | exact HB.out | apply below_alloc | apply pw_below_drewN | apply below_drew1) | exact HB.out)⟩⟩
                                · rw [if_neg c22] at H
                                  exact absurd H (by simp)
                              · rw [if_neg c21] at H
                                exact absurd H (by simp)
                            · rw [if_neg c20] at H
                              exact absurd H (by simp)
                          · rw [if_neg c19] at H
                            exact absurd H (by simp)
                        · replace c17 := Bool.eq_false_iff.mpr c17
                          subst c17
                          have H1 : (if t174.toList = t173.toList then (wainwrightlaw02_PatternWords.j3 kj8 l0 x3_1 t173 false) else (wainwrightlaw02_PatternWords.j3 kj8 l0 x3_1 t173 true)) = some r := by rw [if_neg (show ¬ (false = true) by decide)] at H; exact H
                          clear H
                          have H := H1
                          clear H1
                          by_cases c23 : t174.toList = t173.toList
                          · rw [if_pos c23] at H
                            have c23b0 : (t174.toList == t173.toList) = true := beq_iff_eq.mpr c23
                            have c23b1 : (t174.toList != t173.toList) = false := bne_eq_false_iff_eq.mpr c23
                            clear c23
                            have H' := Aside0.mk H
                            clear H
                            go_wp2
                            go_meet
                            case rel => exact ⟨_, (false), (by first | rfl | (simp; done) | (simp [*]; done)), H', ⟨by have := HK1.out; have := HJ1.out; have := HJ8.out; first | omega | exact Nat.le_refl _⟩, ⟨by repeat (first | (with_reducible first | exact HB.out | apply below_alloc | apply pw_below_drewN | apply below_drew1) | exact HB.out)⟩⟩
                          · rw [if_neg c23] at H
                            have c23b0 : (t174.toList == t173.toList) = false := beq_eq_false_iff_ne.mpr c23
                            have c23b1 : (t174.toList != t173.toList) = true := bne_iff_ne.mpr c23
                            have H' := Aside0.mk H
                            clear H
                            go_wp2
                            go_meet
                            case rel => exact ⟨_, (true), (by first | rfl | (simp; done) | (simp [*]; done)), H', ⟨by have := HK1.out; have := HJ1.out; have := HJ8.out; first | omega | exact Nat.le_refl _⟩, ⟨by repeat (first | (with_reducible first | exact HB.out | apply below_alloc | apply pw_below_drewN | apply below_drew1) | exact HB.out)⟩⟩
                    case rest =>
                      clear HC15
                      try clear c1
                      try clear p1
                      try clear q1
                      try clear hx1
                      try clear c2
                      try clear p2
                      try clear c3
                      try clear c3b0
                      try clear c4
                      try clear c5
                      try clear c5b0
                      try clear c6
                      try clear c6b0
                      try clear p6
                      try clear c10
                      try clear c11
                      try clear c11b0
                      try clear c11b1
                      try clear c13
                      try clear c13b0
                      try clear c13b1
                      try clear c14
                      try clear c14b0
                      try clear c14b1
                      try clear c16
                      try clear c16b0
                      try clear c16b1
                      try clear c16b2
                      try clear c17
                      try clear p17
                      try clear q17
                      try clear hx17
                      try clear c19
                      try clear c19b0
                      try clear c19b1
                      try clear c20
                      try clear c20b0
                      try clear c20b1
                      try clear c21
                      try clear c21b0
                      try clear c21b1
                      try clear c21b2
                      try clear c22
                      try clear c22b0
                      try clear c22b1
                      try clear c22b2
                      try clear c23
                      try clear c23b0
                      try clear c23b1
                      try clear hx172_0
                      try clear p1
                      try clear p172
                      try clear p2
                      try clear p6
                      try clear q1
                      try clear q172
                      obtain ⟨kq, x68_14, rfl, HA, HJ14, HB⟩ := hcut
                      cases kq with
                      | zero => exact absurd HA.out (by simp [wainwrightlaw02_PatternWords.j3])
                      | succ kj14 =>
                        have H := HA.out
                        clear HA
                        simp only [wainwrightlaw02_PatternWords.j3] at H
                        by_cases c24 : x68_14 = true
                        · subst c24
                          have H1 : (some false) = some r := by rw [if_pos rfl] at H; exact H
                          clear H
                          have H := H1
                          clear H1
                          exact absurd ((Option.some.inj H).trans hr_.out) (by decide)
                        · replace c24 := Bool.eq_false_iff.mpr c24
                          subst c24
                          have H1 : ((pattern_Replace.f (⟨#[37]⟩ : ByteArray) (⟨#[60, 37]⟩ : ByteArray) t173).bind fun bt176 => ((pattern_Replace.f (⟨#[102, 111, 111]⟩ : ByteArray) (⟨#[37, 98, 97, 114]⟩ : ByteArray) t173).bind fun bt178 => (if 1 + t173.size ≤ 9223372036854775807 then (if bt176.1.toList = ((⟨#[60]⟩ : ByteArray) ++ t173).toList then (if bt176.2 = true then (if (bt178.2 != (t173.toList == ([102, 111, 111] : List UInt8))) = true then (some false) else (if bt178.2 = true then (if bt178.1.toList = ([37, 98, 97, 114] : List UInt8) then (wainwrightlaw02_PatternWords.l0 kj14 l0 (wrap64 (x3_1 + 1))) else (some false)) else (if bt178.1.toList = t173.toList then (wainwrightlaw02_PatternWords.l0 kj14 l0 (wrap64 (x3_1 + 1))) else (some false)))) else (some false)) else (some false)) else (none)))) = some r := by rw [if_neg (show ¬ (false = true) by decide)] at H; exact H
                          clear H
                          have H := H1
                          clear H1
                          replace H := Option.bind_eq_some_iff.mp H
                          obtain ⟨⟨t176, t177⟩, A250, H⟩ := H
                          replace H : ((pattern_Replace.f (⟨#[102, 111, 111]⟩ : ByteArray) (⟨#[37, 98, 97, 114]⟩ : ByteArray) t173).bind fun bt178 => (if 1 + t173.size ≤ 9223372036854775807 then (if t176.toList = ((⟨#[60]⟩ : ByteArray) ++ t173).toList then (if t177 = true then (if (bt178.2 != (t173.toList == ([102, 111, 111] : List UInt8))) = true then (some false) else (if bt178.2 = true then (if bt178.1.toList = ([37, 98, 97, 114] : List UInt8) then (wainwrightlaw02_PatternWords.l0 kj14 l0 (wrap64 (x3_1 + 1))) else (some false)) else (if bt178.1.toList = t173.toList then (wainwrightlaw02_PatternWords.l0 kj14 l0 (wrap64 (x3_1 + 1))) else (some false)))) else (some false)) else (some false)) else (none))) = some r := H
                          have A25 := Aside0.mk A250
                          clear A250
                          replace H := Option.bind_eq_some_iff.mp H
                          obtain ⟨⟨t178, t179⟩, A260, H⟩ := H
                          replace H : (if 1 + t173.size ≤ 9223372036854775807 then (if t176.toList = ((⟨#[60]⟩ : ByteArray) ++ t173).toList then (if t177 = true then (if (t179 != (t173.toList == ([102, 111, 111] : List UInt8))) = true then (some false) else (if t179 = true then (if t178.toList = ([37, 98, 97, 114] : List UInt8) then (wainwrightlaw02_PatternWords.l0 kj14 l0 (wrap64 (x3_1 + 1))) else (some false)) else (if t178.toList = t173.toList then (wainwrightlaw02_PatternWords.l0 kj14 l0 (wrap64 (x3_1 + 1))) else (some false)))) else (some false)) else (some false)) else (none)) = some r := H
                          have A26 := Aside0.mk A260
                          clear A260
                          by_cases c27 : 1 + t173.size ≤ 9223372036854775807
                          · rw [if_pos c27] at H
                            have c27b0 := eq_true c27
                            have c27b1 : decide (1 + t173.size ≤ 9223372036854775807) = true := decide_eq_true c27
                            try have c27b2 : (9223372036854775807 < 1 + t173.size) = False := eq_false (Nat.not_lt.2 c27)
                            by_cases c28 : t176.toList = ((⟨#[60]⟩ : ByteArray) ++ t173).toList
                            · rw [if_pos c28] at H
                              have c28b0 : (t176.toList == ((⟨#[60]⟩ : ByteArray) ++ t173).toList) = true := beq_iff_eq.mpr c28
                              have c28b1 : (t176.toList != ((⟨#[60]⟩ : ByteArray) ++ t173).toList) = false := bne_eq_false_iff_eq.mpr c28
                              clear c28
                              by_cases c29 : t177 = true
                              · subst c29
                                have H1 : (if (t179 != (t173.toList == ([102, 111, 111] : List UInt8))) = true then (some false) else (if t179 = true then (if t178.toList = ([37, 98, 97, 114] : List UInt8) then (wainwrightlaw02_PatternWords.l0 kj14 l0 (wrap64 (x3_1 + 1))) else (some false)) else (if t178.toList = t173.toList then (wainwrightlaw02_PatternWords.l0 kj14 l0 (wrap64 (x3_1 + 1))) else (some false)))) = some r := by rw [if_pos rfl] at H; exact H
                                clear H
                                have H := H1
                                clear H1
                                by_cases c30 : (t179 != (t173.toList == ([102, 111, 111] : List UInt8))) = true
                                · rw [if_pos c30] at H
                                  have c30b0 : (t179 != (t173.toList == ([102, 111, 111] : List UInt8))) = true := c30
                                  (try (have c30b1 : decide (t179 = (t173.toList == ([102, 111, 111] : List UInt8))) = false := by simpa using c30))
                                  (try (have c30b2 : (t179 == (t173.toList == ([102, 111, 111] : List UInt8))) = false := by simpa using c30))
                                  (try (have c30b3 : ¬ (t179 = (t173.toList == ([102, 111, 111] : List UInt8))) := by simpa using c30))
                                  clear c30
                                  exact absurd ((Option.some.inj H).trans hr_.out) (by decide)
                                · rw [if_neg c30] at H
                                  have c30b0 : (t179 != (t173.toList == ([102, 111, 111] : List UInt8))) = false := by simpa using c30
                                  (try (have c30b1 : decide (t179 = (t173.toList == ([102, 111, 111] : List UInt8))) = true := by simpa using c30))
                                  (try (have c30b2 : (t179 == (t173.toList == ([102, 111, 111] : List UInt8))) = true := by simpa using c30))
                                  clear c30
                                  by_cases c31 : t179 = true
                                  · subst c31
                                    have H1 : (if t178.toList = ([37, 98, 97, 114] : List UInt8) then (wainwrightlaw02_PatternWords.l0 kj14 l0 (wrap64 (x3_1 + 1))) else (some false)) = some r := by rw [if_pos rfl] at H; exact H
                                    clear H
                                    have H := H1
                                    clear H1
                                    by_cases c32 : t178.toList = ([37, 98, 97, 114] : List UInt8)
                                    · rw [if_pos c32] at H
                                      have c32b0 : (t178.toList == ([37, 98, 97, 114] : List UInt8)) = true := beq_iff_eq.mpr c32
                                      have c32b1 : (t178.toList != ([37, 98, 97, 114] : List UInt8)) = false := bne_eq_false_iff_eq.mpr c32
                                      clear c32
                                      have H' := Aside0.mk H
                                      clear H
                                      go_wp2_with (first | ((with_reducible refine gate_callee (f := 27) rfl ?_); refine goesL_ (some 71) rfl rfl Try.func27 (by kernel_rfl) rfl #[.string (⟨#[37]⟩ : ByteArray), .string (⟨#[60, 37]⟩ : ByteArray), .string t173] rfl (by (try simp only [List.map_toArray, List.map_cons, List.map_nil]); first | done | rfl | (simp only [List.length_drop, List.length_take]; rfl)) ?_; (with_reducible refine (pattern_Replace.calls (⟨#[37]⟩ : ByteArray) (⟨#[60, 37]⟩ : ByteArray) t173 t176 true _ A25.out).mono ?_); rintro e w33 ⟨rfl, hb⟩; refine ⟨_, rfl, ?_⟩; have n0_ := Aside0.mk (below_step (by repeat (first | (with_reducible first | exact HB.out | apply below_alloc | apply pw_below_drewN | apply below_drew1) | exact HB.out)) hb); clear HB; have HB := n0_; clear n0_; (try clear hb); (try clear hb2); (try clear hk); (try clear hi)) | ((with_reducible refine gate_callee (f := 27) rfl ?_); refine goesL_ (some 76) rfl rfl Try.func27 (by kernel_rfl) rfl #[.string (⟨#[102, 111, 111]⟩ : ByteArray), .string (⟨#[37, 98, 97, 114]⟩ : ByteArray), .string t173] rfl (by (try simp only [List.map_toArray, List.map_cons, List.map_nil]); first | done | rfl | (simp only [List.length_drop, List.length_take]; rfl)) ?_; (with_reducible refine (pattern_Replace.calls (⟨#[102, 111, 111]⟩ : ByteArray) (⟨#[37, 98, 97, 114]⟩ : ByteArray) t173 t178 true _ A26.out).mono ?_); rintro e w34 ⟨rfl, hb⟩; refine ⟨_, rfl, ?_⟩; have n0_ := Aside0.mk (below_step (by repeat (first | (with_reducible first | exact HB.out | apply below_alloc | apply pw_below_drewN | apply below_drew1) | exact HB.out)) hb); clear HB; have HB := n0_; clear n0_; (try clear hb); (try clear hb2); (try clear hk); (try clear hi)))
                                      go_roundg kj14
                                      case measure => have := HK1.out; have := HJ1.out; have := HJ8.out; have := HJ14.out; omega
                                      case rel => exact ⟨(wrap64 (x3_1 + 1)), (by first | rfl | (simp; done) | (simp [*]; done)), H', ⟨by have := HK1.out; have := HJ1.out; have := HJ8.out; have := HJ14.out; omega⟩, ⟨by repeat (first | (with_reducible first | exact HB.out | apply below_alloc | apply pw_below_drewN | apply below_drew1) | exact HB.out)⟩⟩
                                    · rw [if_neg c32] at H
                                      have c32b0 : (t178.toList == ([37, 98, 97, 114] : List UInt8)) = false := beq_eq_false_iff_ne.mpr c32
                                      have c32b1 : (t178.toList != ([37, 98, 97, 114] : List UInt8)) = true := bne_iff_ne.mpr c32
                                      exact absurd ((Option.some.inj H).trans hr_.out) (by decide)
                                  · replace c31 := Bool.eq_false_iff.mpr c31
                                    subst c31
                                    have H1 : (if t178.toList = t173.toList then (wainwrightlaw02_PatternWords.l0 kj14 l0 (wrap64 (x3_1 + 1))) else (some false)) = some r := by rw [if_neg (show ¬ (false = true) by decide)] at H; exact H
                                    clear H
                                    have H := H1
                                    clear H1
                                    by_cases c35 : t178.toList = t173.toList
                                    · rw [if_pos c35] at H
                                      have c35b0 : (t178.toList == t173.toList) = true := beq_iff_eq.mpr c35
                                      have c35b1 : (t178.toList != t173.toList) = false := bne_eq_false_iff_eq.mpr c35
                                      clear c35
                                      have H' := Aside0.mk H
                                      clear H
                                      go_wp2_with (first | ((with_reducible refine gate_callee (f := 27) rfl ?_); refine goesL_ (some 71) rfl rfl Try.func27 (by kernel_rfl) rfl #[.string (⟨#[37]⟩ : ByteArray), .string (⟨#[60, 37]⟩ : ByteArray), .string t173] rfl (by (try simp only [List.map_toArray, List.map_cons, List.map_nil]); first | done | rfl | (simp only [List.length_drop, List.length_take]; rfl)) ?_; (with_reducible refine (pattern_Replace.calls (⟨#[37]⟩ : ByteArray) (⟨#[60, 37]⟩ : ByteArray) t173 t176 true _ A25.out).mono ?_); rintro e w36 ⟨rfl, hb⟩; refine ⟨_, rfl, ?_⟩; have n0_ := Aside0.mk (below_step (by repeat (first | (with_reducible first | exact HB.out | apply below_alloc | apply pw_below_drewN | apply below_drew1) | exact HB.out)) hb); clear HB; have HB := n0_; clear n0_; (try clear hb); (try clear hb2); (try clear hk); (try clear hi)) | ((with_reducible refine gate_callee (f := 27) rfl ?_); refine goesL_ (some 76) rfl rfl Try.func27 (by kernel_rfl) rfl #[.string (⟨#[102, 111, 111]⟩ : ByteArray), .string (⟨#[37, 98, 97, 114]⟩ : ByteArray), .string t173] rfl (by (try simp only [List.map_toArray, List.map_cons, List.map_nil]); first | done | rfl | (simp only [List.length_drop, List.length_take]; rfl)) ?_; (with_reducible refine (pattern_Replace.calls (⟨#[102, 111, 111]⟩ : ByteArray) (⟨#[37, 98, 97, 114]⟩ : ByteArray) t173 t178 false _ A26.out).mono ?_); rintro e w37 ⟨rfl, hb⟩; refine ⟨_, rfl, ?_⟩; have n0_ := Aside0.mk (below_step (by repeat (first | (with_reducible first | exact HB.out | apply below_alloc | apply pw_below_drewN | apply below_drew1) | exact HB.out)) hb); clear HB; have HB := n0_; clear n0_; (try clear hb); (try clear hb2); (try clear hk); (try clear hi)))
                                      go_roundg kj14
                                      case measure => have := HK1.out; have := HJ1.out; have := HJ8.out; have := HJ14.out; omega
                                      case rel => exact ⟨(wrap64 (x3_1 + 1)), (by first | rfl | (simp; done) | (simp [*]; done)), H', ⟨by have := HK1.out; have := HJ1.out; have := HJ8.out; have := HJ14.out; omega⟩, ⟨by repeat (first | (with_reducible first | exact HB.out | apply below_alloc | apply pw_below_drewN | apply below_drew1) | exact HB.out)⟩⟩
                                    · rw [if_neg c35] at H
                                      have c35b0 : (t178.toList == t173.toList) = false := beq_eq_false_iff_ne.mpr c35
                                      have c35b1 : (t178.toList != t173.toList) = true := bne_iff_ne.mpr c35
                                      exact absurd ((Option.some.inj H).trans hr_.out) (by decide)
                              · replace c29 := Bool.eq_false_iff.mpr c29
                                subst c29
                                have H1 : (some false) = some r := by rw [if_neg (show ¬ (false = true) by decide)] at H; exact H
                                clear H
                                have H := H1
                                clear H1
                                exact absurd ((Option.some.inj H).trans hr_.out) (by decide)
                            · rw [if_neg c28] at H
                              have c28b0 : (t176.toList == ((⟨#[60]⟩ : ByteArray) ++ t173).toList) = false := beq_eq_false_iff_ne.mpr c28
                              have c28b1 : (t176.toList != ((⟨#[60]⟩ : ByteArray) ++ t173).toList) = true := bne_iff_ne.mpr c28
                              exact absurd ((Option.some.inj H).trans hr_.out) (by decide)
                          · rw [if_neg c27] at H
                            exact absurd H (by simp)
              · rw [if_neg c6] at H
                exact absurd H (by simp)
            · rw [if_neg c5] at H
              exact absurd H (by simp)
          · replace c4 := Bool.eq_false_iff.mpr c4
            subst c4
            have H1 : ((wainwrightlaw02_awake.f).bind fun t171 => (some t171)) = some r := by rw [if_neg (show ¬ (false = true) by decide)] at H; exact H
            clear H
            have H := H1
            clear H1
            replace H := Option.bind_eq_some_iff.mp H
            obtain ⟨t171, A380, H⟩ := H
            replace H : (some t171) = some r := H
            have A38 := Aside0.mk A380
            clear A380
            obtain rfl := Option.some.inj H
            go_wp2_with (first | ((with_reducible refine gate_callee (f := 22) rfl ?_); refine goesL_ (some 109) rfl rfl Try.func22 (by kernel_rfl) rfl #[] rfl (by (try simp only [List.map_toArray, List.map_cons, List.map_nil]); first | done | rfl | (simp only [List.length_drop, List.length_take]; rfl)) ?_; (with_reducible refine (wainwrightlaw02_awake.calls  t171 _ A38.out).mono ?_); rintro e w39 ⟨rfl, hb⟩; refine ⟨_, rfl, ?_⟩; have n0_ := Aside0.mk (below_step (by repeat (first | (with_reducible first | exact HB.out | apply below_alloc | apply pw_below_drewN | apply below_drew1) | exact HB.out)) hb); clear HB; have HB := n0_; clear n0_; (try clear hb); (try clear hb2); (try clear hk); (try clear hi)))
            go_ret
            exact ⟨by first | rfl | (simp [errW_none, errW_some] <;> rfl) | (simp [*, errW_none, errW_some] <;> rfl), by repeat (first | (with_reducible first | exact HB.out | apply below_alloc | apply pw_below_drewN | apply below_drew1) | exact HB.out)⟩

/-- THE ONE PURE STATEMENT of wainwrightlaw02_PatternWords: yours. -/
def wainwrightlaw02_PatternWords.Pure : Prop := ∀ (l0 : List Int), l0.length ≤ maxLen → l0.length * 8 ≤ 140737488351232 → (∀ x ∈ l0, (Lit.int .i64 x).wf = true) → ∃ k, wainwrightlaw02_PatternWords.f k l0 = some true
theorem wainwrightlaw02_PatternWords.walk (P : wainwrightlaw02_PatternWords.Pure) (a0 : Option Addr) (len0 cap0 : Nat) (z0 : List Int) (w : World) (w0 : (a0 = none ∧ len0 = 0 ∧ cap0 = 0 ∧ z0 = []) ∨ ∃ x, a0 = some x ∧ len0 ≤ cap0 ∧ cap0 ≤ maxLen ∧ z0.length = cap0 ∧ (∀ i, i < z0.length → w.cell? (x.add i) = some (.int .i64 (z0.getD i 0))) ∧ ∀ n ∈ z0, (Lit.int .i64 n).wf = true) (y0 : len0 * 8 ≤ 140737488351232) :
    Calls Try.prog 10 #[.slice a0 len0 cap0] w fun e w' => e = .returned (.bool true) ∧ Below w.heap.size w w' := by
  obtain ⟨l0, rfl, hr0, hm0, hw0, hc0⟩ := ReadsInt.ofRowC w0
  obtain ⟨k, h⟩ := P l0 hm0 y0 hw0
  refine (wainwrightlaw02_PatternWords.calls k _ _ l0 true (show Hid (true = true) from rfl) w (Kd.C_of_reads (d := (0 : Int)) (h1 := fun _ => rfl) hr0) hc0 h).mono ?_
  rintro e w' ⟨rfl, hd⟩
  exact ⟨rfl, hd⟩

end Go.Proofs.Ytabdjijlmiobhaa.P
