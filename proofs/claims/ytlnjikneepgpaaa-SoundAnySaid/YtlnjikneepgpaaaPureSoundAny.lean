/- wainwrightlaw13.SoundAny answers true at every code that reads as data: the two checks answer alike. -/
import Derived.Test.YtlnjikneepgpaaaPureSound2
import Derived.Test.YtlnjikneepgpaaaOpenKd
namespace Go.Proofs.Ytlnjikneepgpaaa.Pure
open Go.RowKit Go.Proofs.Ytlnjikneepgpaaa.P Go.Proofs.Ytlnjikneepgpaaa.G Go.Proofs.Ytlnjikneepgpaaa.P0 Go.Proofs.YtlnjikneepgpaaaW.PrintWords Go.Proofs.YtlnjikneepgpaaaW.PrintLast Go.Proofs.YtlnjikneepgpaaaW.PrintMore
set_option linter.unusedVariables false
set_option linter.unusedSimpArgs false

/-- An answer comes; where it is yes there are few blocks. -/
def Few (l : List (List S44)) (g : Nat → Option Bool) : Prop := ∃ b, Ev g b ∧ (b = true → l.length ≤ 30)
theorem Few.step {l : List (List S44)} {g f : Nat → Option Bool} (h : ∀ k, g (k + 1) = f k) (hf : Few l f) : Few l g := by
  obtain ⟨b, h1, h2⟩ := hf
  exact ⟨b, Ev.step h h1, h2⟩
theorem Few.no (l : List (List S44)) : Few l (fun _ => some false) := ⟨false, Ev.now _, fun h => by cases h⟩

theorem few_l1 (l : List (List S44)) (hG : GoodCode l) (i : Nat) (hi : i < l.length) (hnext : ∀ n, Few l (fun k => wainwrightlaw00_FewCode.l0 k n ((i + 1 : Nat) : Int) l)) : ∀ (d j : Nat) (n : Int), j + d = l[i].length →
    Few l (fun k => wainwrightlaw00_FewCode.l1 k n (i : Int) (j : Int) l) := by
  have hil := hG.1
  have e1 : wrap64 ((i : Int) + 1) = ((i + 1 : Nat) : Int) := by rw [w64 (by omega) (by omega)]; omega
  have hno : ∀ n j, Few l (fun k => wainwrightlaw00_FewCode.j3 k n (i : Int) j false l) := fun n j =>
    Few.step (f := fun k => wainwrightlaw00_FewCode.l0 k n ((i + 1 : Nat) : Int) l) (fun k => by simp only [wainwrightlaw00_FewCode.j3]; rw [if_neg (by decide), e1]) (hnext n)
  intro d
  induction d with
  | zero =>
    intro j n hj
    refine Few.step (f := fun k => wainwrightlaw00_FewCode.j3 k n (i : Int) (j : Int) false l) (fun k => ?_) (hno n j)
    simp only [wainwrightlaw00_FewCode.l1]
    rw [if_pos (by omega), if_pos (by omega), rdL hi, if_neg (by omega)]
  | succ d ih =>
    intro j n hj
    have hjl : j < l[i].length := by omega
    have hb := (hG.2 _ (List.getElem_mem hi)).1
    have e2 : wrap64 ((j : Int) + 1) = ((j + 1 : Nat) : Int) := by rw [w64 (by omega) (by omega)]; omega
    by_cases h60 : (j : Int) < 60
    · refine Few.step (f := fun k => wainwrightlaw00_FewCode.j3 k n (i : Int) (j : Int) true l) (fun k => ?_) ?_
      · simp only [wainwrightlaw00_FewCode.l1]
        rw [if_pos (by omega), if_pos (by omega), rdL hi, if_pos (by omega), decide_eq_true h60]
      · by_cases c1 : ((l[i][j]).f3.length : Int) > 8
        · refine Few.step (f := fun _ => some false) (fun k => ?_) (Few.no l)
          simp only [wainwrightlaw00_FewCode.j3]
          rw [if_pos trivial, if_pos (by omega), if_pos (by omega), if_pos (by omega), rdL hi, if_pos (by omega), rdT hjl, if_pos c1]
        · by_cases c2 : ((l[i][j]).f2.size : Int) > 300
          · refine Few.step (f := fun _ => some false) (fun k => ?_) (Few.no l)
            simp only [wainwrightlaw00_FewCode.j3]
            rw [if_pos trivial, if_pos (by omega), if_pos (by omega), if_pos (by omega), rdL hi, if_pos (by omega), rdT hjl, if_neg c1, if_pos c2]
          · refine Few.step (f := fun k => wainwrightlaw00_FewCode.l1 k n (i : Int) ((j + 1 : Nat) : Int) l) (fun k => ?_) (ih (j + 1) n (by omega))
            simp only [wainwrightlaw00_FewCode.j3]
            rw [if_pos trivial, if_pos (by omega), if_pos (by omega), if_pos (by omega), rdL hi, if_pos (by omega), rdT hjl, if_neg c1, if_neg c2, e2]
    · refine Few.step (f := fun k => wainwrightlaw00_FewCode.j3 k n (i : Int) (j : Int) false l) (fun k => ?_) (hno n j)
      simp only [wainwrightlaw00_FewCode.l1]
      rw [if_pos (by omega), if_pos (by omega), rdL hi, if_pos (by omega), decide_eq_false h60]

theorem few_l0 (l : List (List S44)) (hG : GoodCode l) : ∀ (d i : Nat) (n : Int), i + d = l.length → Few l (fun k => wainwrightlaw00_FewCode.l0 k n (i : Int) l) := by
  have hend : ∀ n i, Few l (fun k => wainwrightlaw00_FewCode.j1 k n i false l) := fun n i => by
    by_cases h : (l.length : Int) ≤ 30
    · exact ⟨decide (n ≤ 100), Ev.step (f := fun _ => some (decide (n ≤ 100))) (fun k => by simp only [wainwrightlaw00_FewCode.j1]; rw [if_neg (by decide), if_pos h]) (Ev.now _), fun _ => by omega⟩
    · exact Few.step (f := fun _ => some false) (fun k => by simp only [wainwrightlaw00_FewCode.j1]; rw [if_neg (by decide), if_neg h]) (Few.no l)
  intro d
  induction d with
  | zero =>
    intro i n hi
    refine Few.step (f := fun k => wainwrightlaw00_FewCode.j1 k n (i : Int) false l) (fun k => ?_) (hend n i)
    simp only [wainwrightlaw00_FewCode.l0]
    rw [if_neg (by omega)]
  | succ d ih =>
    intro i n hi
    have hlt : i < l.length := by omega
    by_cases h30 : (i : Int) < 30
    · refine Few.step (f := fun k => wainwrightlaw00_FewCode.j1 k n (i : Int) true l) (fun k => ?_) (Few.step (f := fun k => wainwrightlaw00_FewCode.l1 k (wrap64 (n + (l[i].length : Int))) (i : Int) ((0 : Nat) : Int) l) (fun k => ?_) (few_l1 l hG i hlt (fun m => ih (i + 1) m (by omega)) l[i].length 0 _ (by omega)))
      · simp only [wainwrightlaw00_FewCode.l0]
        rw [if_pos (by omega), decide_eq_true h30]
      · simp only [wainwrightlaw00_FewCode.j1]
        rw [if_pos trivial, if_pos (by omega), if_pos (by omega), rdL hlt]
        rfl
    · refine Few.step (f := fun k => wainwrightlaw00_FewCode.j1 k n (i : Int) false l) (fun k => ?_) (hend n i)
      simp only [wainwrightlaw00_FewCode.l0]
      rw [if_pos (by omega), decide_eq_false h30]

theorem SoundAny (l : List (List S44)) (hG : GoodCode l) : ∃ k, wainwrightlaw13_SoundAny.f k l = some true := by
  obtain ⟨b, hb, h30⟩ := few_l0 l hG l.length 0 0 (by omega)
  refine Ev.rounds (g := fun k => wainwrightlaw13_SoundAny.f k l) ?_
  unfold wainwrightlaw13_SoundAny.f
  refine Ev.bind (show Ev (fun k => wainwrightlaw00_FewCode.f k l) b from hb) ?_
  cases b with
  | false => exact Ev.bind sound_awake (Ev.now _)
  | true =>
    have hl := h30 rfl
    have hc := check_is l hG hl
    have hd := depth_is l hG hl
    simp only [if_true]
    refine Ev.bind (show Ev (fun k => sound_Check.f k l) (checkS l).2 from Ev.bind hc (Ev.now _)) ?_
    refine Ev.bind (show Ev (fun k => wainwrightref13_Check.f k l) (decide ((checkS l).1 > 0)) from Ev.bind hd (Ev.now _)) ?_
    rw [← check_pos]
    simp only [beq_self_eq_true, if_true]
    refine Ev.bind (show Ev (fun k => sound_Depth.f k l) (checkS l).1 from Ev.bind hc (Ev.now _)) ?_
    refine Ev.bind (show Ev (fun k => wainwrightref13_Depth.f k l) (checkS l).1 from hd) ?_
    simp only [if_true]
    exact Ev.bind sound_awake (Ev.now _)

theorem opens_op : Opens Try.prog 44 k44 (fun x => (Lit.int .i64 x.f0).wf = true ∧ (Lit.int .i64 x.f1).wf = true ∧ x.f2.size ≤ 140737488351232 ∧ x.f3.length * Try.prog.bytesOf 3 ≤ 140737488351232 ∧ ∀ v ∈ x.f3, (Lit.int .i64 v).wf = true) :=
  opens_iso (opens_struct4 Try.underlying44 (by kernel_rfl) rfl rfl rfl rfl (by kernel_rfl) (by kernel_rfl) (by kernel_rfl) (by kernel_rfl) (opens_int Try.underlying3) (opens_int Try.underlying3) (opens_string Try.underlying9) (opens_slice Try.underlying22 (opens_int Try.underlying3) (by kernel_rfl)))
    (fun x : S44 => (x.f0, x.f1, x.f2, x.f3)) (fun v => ⟨v.1, v.2.1, v.2.2.1, v.2.2.2⟩) (fun _ => rfl)
theorem opens_code : Opens Try.prog 25 (Kd.slice 44 k44 |> Kd.slice 42) GoodCode := by
  have h := opens_struct1 Try.underlying25 (by kernel_rfl) rfl (by kernel_rfl) (opens_slice Try.underlying23 (opens_slice Try.underlying42 opens_op (by kernel_rfl)) (by kernel_rfl))
  intro H enc w base spare held fuel cs x hx hsz
  obtain ⟨v, hv, h1, h2⟩ := h H enc w base spare held fuel cs x hx hsz
  have b1 : Try.prog.bytesOf 42 = 24 := by kernel_rfl
  have b2 : Try.prog.bytesOf 44 = 56 := by kernel_rfl
  have b3 : Try.prog.bytesOf 3 = 8 := by kernel_rfl
  rw [b1] at h1
  refine ⟨v, hv, by omega, fun b hb => ?_⟩
  obtain ⟨g1, g2⟩ := h2 b hb
  rw [b2] at g1
  refine ⟨by omega, fun y hy => ?_⟩
  obtain ⟨_, _, g3, g4, _⟩ := g2 y hy
  rw [b3] at g4
  exact ⟨g3, by omega⟩

theorem soundAny_walk (A : Option Addr) (c : Nat) (l : List (List S44)) (w : World) (hC : Kd.C (Kd.slice 44 k44) w A l.length l) (hc : l.length ≤ c) (hG : GoodCode l) :
    Calls Try.prog 6 #[.agg #[.slice A l.length c]] w fun e w' => e = .returned (.bool true) ∧ Below w.heap.size w w' := by
  obtain ⟨k, hk⟩ := SoundAny l hG
  refine (wainwrightlaw13_SoundAny.calls k A c l true (show Hid (true = true) from rfl) w hC hc hk).mono ?_
  rintro e w' ⟨rfl, hb⟩
  exact ⟨rfl, hb⟩
end Go.Proofs.Ytlnjikneepgpaaa.Pure
