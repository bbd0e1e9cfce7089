/- The law PathAll: its walk. -/
import Derived.Test.YtpoekljclapbfaaDoorPathPlain
import Derived.HandedShaped
namespace Go.Proofs.YtpoekljclapbfaaDoor.G
open Go.RowKit
set_option linter.unusedVariables false

theorem max_kept {w w' : World} (h : ∃ m, w.cell? ⟨0, 0, none⟩ = some (.int .i64 m)) (hb : Below w.heap.size w w') : ∃ m, w'.cell? ⟨0, 0, none⟩ = some (.int .i64 m) := by
  obtain ⟨m, hm⟩ := h
  refine ⟨m, (hb.cell ?_).trans hm⟩
  show 0 < w.heap.size
  rcases Nat.eq_zero_or_pos w.heap.size with h | h
  · have : w.heap[0]? = none := Array.getElem?_eq_none (by omega)
    simp [World.cell?, this] at hm
  · exact h
theorem aw_abs : absB ⟨#[97, 47, 46, 46, 47, 98]⟩ = ⟨#[47, 98]⟩ := by decide +kernel
theorem aw_dir : dirB ⟨#[97]⟩ = ⟨#[46, 47]⟩ := by decide +kernel
theorem aw_notdir : notdirB ⟨#[120, 47, 97, 46, 99]⟩ = ⟨#[97, 46, 99]⟩ := by decide +kernel
theorem aw_suf : sufB ⟨#[120, 46, 100, 47, 97]⟩ = ⟨#[]⟩ := by decide +kernel
theorem aw_base : baseB ⟨#[97, 46, 99]⟩ = ⟨#[97]⟩ := by decide +kernel
set_option maxHeartbeats 1000000 in
set_option maxRecDepth 100000 in
theorem awake04 (w : World) (hm : ∃ m, w.cell? ⟨0, 0, none⟩ = some (.int .i64 m)) :
    Calls Tryd.prog 7 #[] w fun e w' => e = .returned (.bool true) ∧ Below w.heap.size w w' := by
  have H1 := Lib.hid (path_Abs ⟨#[97, 47, 46, 46, 47, 98]⟩ (by decide) w hm)
  have H2 := Lib.hid (path_Dir ⟨#[97]⟩ (by decide))
  have H3 := Lib.hid (path_Notdir ⟨#[120, 47, 97, 46, 99]⟩ (by decide))
  have H4 := Lib.hid (path_Suffix ⟨#[120, 46, 100, 47, 97]⟩ (by decide))
  have H5 := Lib.hid (path_Base ⟨#[97, 46, 99]⟩ (by decide))
  rw [aw_abs] at H1
  rw [aw_dir] at H2
  rw [aw_notdir] at H3
  rw [aw_suf] at H4
  rw [aw_base] at H5
  go_enter Tryd.func7, Tryd.ntmps7
  go_wp2_with (first
    | (go_at_call 16; refine H1.out.mono ?_; rintro e w1 ⟨rfl, hb⟩; have HB := Lib.hid hb; clear hb)
    | (go_at_call 8; refine (H2.out _).mono ?_; rintro e w2 ⟨rfl, rfl⟩)
    | (go_at_call 10; refine (H3.out _).mono ?_; rintro e w3 ⟨rfl, rfl⟩)
    | (go_at_call 12; refine (H4.out _).mono ?_; rintro e w4 ⟨rfl, rfl⟩)
    | (go_at_call 14; refine (H5.out _).mono ?_; rintro e w5 ⟨rfl, rfl⟩))
  go_ret
  exact ⟨rfl, HB.out⟩
set_option maxHeartbeats 1000000 in
set_option maxRecDepth 100000 in
theorem pathAll_walk (a0 : ByteArray) (w : World) (w0 : a0.size ≤ maxLen) (hm : ∃ m, w.cell? ⟨0, 0, none⟩ = some (.int .i64 m)) :
    Calls Tryd.prog 3 #[.string a0] w fun e w' => e = .returned (.bool true) ∧ Below w.heap.size w w' := by
  by_cases hlen : 500 < a0.size
  · have HA := Lib.hid (awake04 w hm)
    go_enter Tryd.func3, Tryd.ntmps3
    go_wp2_with (go_at_call 7; refine HA.out.mono ?_; rintro e w1 ⟨rfl, hb⟩; have HB := Lib.hid hb; clear hb)
    go_ret
    exact ⟨rfl, HB.out⟩
  · have hs : a0.size ≤ 1000000 := by omega
    have H1 := Lib.hid (path_Dir a0 hs)
    have H2 := Lib.hid (ref_Dir a0 hs)
    have H3 := Lib.hid (path_Notdir a0 hs)
    have H4 := Lib.hid (ref_Notdir a0 hs)
    have H5 := Lib.hid (path_Suffix a0 hs)
    have H6 := Lib.hid (ref_Suffix a0 hs)
    have H7 := Lib.hid (path_Base a0 hs)
    have H8 := Lib.hid (ref_Base a0 hs)
    have H9 := Lib.hid (path_Abs a0 hs w hm)
    have H10 := Lib.hid (ref_Abs a0 hs)
    rw [← abs_same] at H10
    obtain ⟨d1, e1⟩ : ∃ d, dirB a0 = d := ⟨_, rfl⟩
    obtain ⟨d2, e2⟩ : ∃ d, notdirB a0 = d := ⟨_, rfl⟩
    obtain ⟨d3, e3⟩ : ∃ d, sufB a0 = d := ⟨_, rfl⟩
    obtain ⟨d4, e4⟩ : ∃ d, baseB a0 = d := ⟨_, rfl⟩
    obtain ⟨d5, e5⟩ : ∃ d, absB a0 = d := ⟨_, rfl⟩
    rw [e1] at H1 H2
    rw [e2] at H3 H4
    rw [e3] at H5 H6
    rw [e4] at H7 H8
    rw [e5] at H9 H10
    clear e1 e2 e3 e4 e5
    go_enter Tryd.func3, Tryd.ntmps3
    go_wp2_with (first
      | (go_at_call 8; refine (H1.out _).mono ?_; rintro e w1 ⟨rfl, rfl⟩)
      | (go_at_call 9; refine (H2.out _).mono ?_; rintro e w1 ⟨rfl, rfl⟩)
      | (go_at_call 10; refine (H3.out _).mono ?_; rintro e w1 ⟨rfl, rfl⟩)
      | (go_at_call 11; refine (H4.out _).mono ?_; rintro e w1 ⟨rfl, rfl⟩)
      | (go_at_call 12; refine (H5.out _).mono ?_; rintro e w1 ⟨rfl, rfl⟩)
      | (go_at_call 13; refine (H6.out _).mono ?_; rintro e w1 ⟨rfl, rfl⟩)
      | (go_at_call 14; refine (H7.out _).mono ?_; rintro e w1 ⟨rfl, rfl⟩)
      | (go_at_call 15; refine (H8.out _).mono ?_; rintro e w1 ⟨rfl, rfl⟩)
      | (go_at_call 16; refine H9.out.mono ?_; rintro e w1 ⟨rfl, hb⟩; have HB := Lib.hid hb; clear hb)
      | (go_at_call 17; refine (H10.out _).mono ?_; rintro e w2 ⟨rfl, hb⟩; have HB2 := Lib.hid (HB.out.trans (hb.mono HB.out.size)); clear hb)
      | (go_at_call 7; refine (awake04 _ (max_kept hm HB2.out)).mono ?_; rintro e w3 ⟨rfl, hb⟩; have HB3 := Lib.hid (HB2.out.trans (hb.mono HB2.out.size)); clear hb))
    go_ret
    exact ⟨rfl, HB3.out⟩
end Go.Proofs.YtpoekljclapbfaaDoor.G
namespace Go.Proofs.YtpoekljclapbfaaDoor.Fin
open Go.RowKit
set_option linter.unusedVariables false
/-- a row's contract is handed the world's shape, and what is asked besides -/
theorem handed_shaped {H : Type} {enc : TypeId × Value → H} {a : Assume} {C : Checked} {os : Os} {f : FuncId} {fn : Func} {s : ChangeSpec} {conds : List PathCond} {apart fresh handsOn again : Bool} {X : World → Array Value → Prop}
    (hX : ∀ (w w' : World) (args : Array Value), w.heap = w'.heap → X w args → X w' args) (own : ownKnob C.prog.godebug = none) (started : os.Started) (noInit : C.prog.inits.idxOf? f = none) (hfn : C.prog.funcs[f]? = some fn)
    (witness : ∃ (w : World) (tape : Tape) (i : Input), w.os = os ∧ (w.forCall tape i).Shaped C.prog ∧ i.vars = [] ∧ Input.okWide C.prog (w.forCall tape i) .any w.heap.size f i ∧
      ((s.pre enc C.prog fn conds apart (w.forCall tape i).memory i.args ∧ X (w.forCall tape i).memory i.args) ∧ sizedMet enc C.prog fn (OpenSpec.ofChange s) apart (w.forCall tape i).memory i.args) ∧ a.holds C.prog (lone (Frame.enter C.prog f i.args .normal) [] (w.forCall tape i)))
    (go : ∀ (W : World) (base : Nat) (args : Array Value) (ds gs : List (DataW H)) (before : List MemPlace), (∀ (j : Nat) t v, fn.params[j]? = some t → args[j]? = some v → Value.okWide C.prog W .any base t v) →
      DataW.Whole enc C.prog fn.params.toList s.vars apart W args.toList ds gs before → conds.all (PathCond.test C.prog ⟨fn.params.toList, ds, s.plain.varTypes C.prog, gs⟩) = true → W.ShapedOpen C.prog →
      Calls C.prog f args W fun e W' => ∃ v, e = .returned v ∧ s.post enc C.prog fn apart fresh handsOn again W args v W') :
    ReturnsInHanded a C os f .any (fun w args => (s.pre enc C.prog fn conds apart w args ∧ X w args) ∧ sizedMet enc C.prog fn (OpenSpec.ofChange s) apart w args) (s.post enc C.prog fn apart fresh handsOn again) := by
  refine returnsInHanded_of_calls own started noInit witness fun w tape i _ hsh _ hok hpre _ => ?_
  obtain ⟨_, _, _, fn', hfn', _, _, _, _, hval⟩ := hok
  obtain rfl : fn' = fn := Option.some.inj (hfn'.symm.trans hfn)
  obtain ⟨⟨⟨ds, gs, before, hw, hc⟩, _⟩, _⟩ := hpre
  refine (go (w.forCall tape i) w.heap.size i.args ds gs before hval (DataW.Whole.of_heap (w' := w.forCall tape i) (by rfl) hw) hc hsh).mono fun e W' ⟨v, he, hp⟩ => ?_
  subst he
  exact ChangeSpec.post_blind hp
end Go.Proofs.YtpoekljclapbfaaDoor.Fin
