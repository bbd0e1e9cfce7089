/- The second run of a whole call does what the model's does. -/
import Derived.Test.YtlnjikneepgpaaaEvLeave
namespace Go.Proofs.Ytlnjikneepgpaaa.Fast
open Go.RowKit (Below)
section
variable {π : Nat → Value} {B : Bd} {P : Program}

theorem entry_ok (hπ : ∀ i, (π i).oneCell' = true) {K : Known} (hK : KnownOk π B P K) (hn : NamesOk P) {n : Nat} {ih : Ih} (hi : ExecOk π B P n ih) : CbOk π B P (fun f args H => (entry P K f).run ih args H) := by
  intro f args H hfine σ w xs hS hl
  show Goes P f xs w (CallR π B ⟨σ, w, H, []⟩ ((entry P K f).run ih args H))
  have hfine : ((entry P K f).run ih args H).fine := hfine
  generalize hcr : (entry P K f).run ih args H = cr at hfine ⊢
  unfold entry at hcr
  split at hcr
  · rename_i fn hf
    split at hcr
    · rename_i body hb hok
      have run : ∀ cr, cr.fine → (bodyRun P K fn body).run ih args H = cr → Calls P f xs w (CallR π B ⟨σ, w, H, []⟩ cr) := fun cr hf' h => body_ok hπ hK hn hi hf hb hok hS hl hf' h
      split at hcr
      · exact .inl ⟨enter_run hn hf hb xs w, run cr hfine hcr⟩
      · rename_i g hg
        refine .inl ⟨enter_run hn hf hb xs w, ?_⟩
        have h2 : orElse (g args H) ((bodyRun P K fn body).run ih args H) = cr := hcr
        unfold orElse at h2
        split at h2
        · exact run cr hfine h2
        · rw [← h2]
          refine hK f g hg args H ?_ σ w xs hS hl
          rw [h2]; exact hfine
    · rename_i hb
      have h2 : (extC P fn).run args H = cr := hcr
      rw [← h2] at hfine ⊢
      exact ext_ok hf hb hfine hS hl
    · obtain rfl := (show CR.no [60] = cr from hcr); exact hfine.elim
  · obtain rfl := (show CR.no [7] = cr from hcr); exact hfine.elim

theorem step_ok (hπ : ∀ i, (π i).oneCell' = true) {K : Known} (hK : KnownOk π B P K) (hn : NamesOk P) (hm : P.follows .mixedOrders = true) {n : Nat} {ih : Ih} (hi : ExecOk π B P n ih) : ExecOk π B P (n + 1) (fun c env H => (stepC P K c).run ih env H) := by
  intro c env H x env' H' h b N σ a w hok hA
  have hcb := entry_ok hπ hK hn hi
  -- what follows behind a first part
  have seq : ∀ (c1 c2 : Code), seqK (ih c2) (ih c1 env H) = .ok x env' H' → codeOk N c1 = true → codeOk N c2 = true →
      c1.wp P (Exit.then (c2.wp P (Done π B b N x env' H')) (Done π B b N x env' H')) a w ∧ (∀ c', c2 = .loop c' → c1.wp P (Exit.then (Code.rounds P c' (Done π B b N x env' H') n) (Done π B b N x env' H')) a w) := by
    intro c1 c2 h h1 h2
    cases hr : ih c1 env H with
    | no l => rw [hr] at h; exact absurd (show R.no l = R.ok x env' H' from h) (by simp)
    | ok x1 env1 H1 =>
      rw [hr] at h
      have hw := (hi c1 env H x1 env1 H1 hr b N σ a w h1 hA).1
      have key : ∀ (F : Act → World → Prop), (∀ σ1 a1 w1, At π B b N σ1 env1 H1 a1 w1 → ih c2 env1 H1 = .ok x env' H' → F a1 w1) → c1.wp P (Exit.then F (Done π B b N x env' H')) a w := by
        intro F hF
        refine Code.wp_mono (fun e a1 w1 hd => ?_) hw
        obtain ⟨σ1, hx, hA1⟩ := hd
        cases x1 with
        | normal =>
          cases e <;> first | exact hx.elim | skip
          exact hF σ1 a1 w1 hA1 h
        | exit i =>
          cases e <;> first | exact hx.elim | skip
          obtain ⟨rfl, rfl, rfl⟩ := R.ok.inj (show R.ok (.exit i) env1 H1 = R.ok x env' H' from h)
          exact ⟨σ1, hx, hA1⟩
        | goto i =>
          cases e <;> first | exact hx.elim | skip
          obtain ⟨rfl, rfl, rfl⟩ := R.ok.inj (show R.ok (.goto i) env1 H1 = R.ok x env' H' from h)
          exact ⟨σ1, hx, hA1⟩
        | ret =>
          cases e <;> first | exact hx.elim | skip
          obtain ⟨rfl, rfl, rfl⟩ := R.ok.inj (show R.ok .ret env1 H1 = R.ok x env' H' from h)
          exact ⟨σ1, hx, hA1⟩
        | panic v =>
          cases e <;> first | exact hx.elim | skip
          obtain ⟨rfl, rfl, rfl⟩ := R.ok.inj (show R.ok (.panic v) env1 H1 = R.ok x env' H' from h)
          exact ⟨σ1, hx, hA1⟩
      exact ⟨key _ fun σ1 a1 w1 hA1 h1 => (hi c2 env1 H1 x env' H' h1 b N σ1 a1 w1 h2 hA1).1, fun c' hc => key _ fun σ1 a1 w1 hA1 h1 => (hi c2 env1 H1 x env' H' h1 b N σ1 a1 w1 h2 hA1).2 c' hc⟩
  cases c with
  | skip =>
    obtain ⟨rfl, rfl, rfl⟩ := R.ok.inj (show R.ok .normal env H = R.ok x env' H' from h)
    exact ⟨wp_skip ⟨σ, trivial, hA⟩, fun c' hc => by simp at hc⟩
  | label l =>
    obtain ⟨rfl, rfl, rfl⟩ := R.ok.inj (show R.ok .normal env H = R.ok x env' H' from h)
    exact ⟨wp_label ⟨σ, trivial, hA⟩, fun c' hc => by simp at hc⟩
  | region id ops draw =>
    refine ⟨?_, fun c' hc => by simp at hc⟩
    cases draw with
    | false => exact wp_region_list (ops_ok hπ hcb ops.toList σ env H a w hok hA h)
    | true =>
      refine draw_ok hπ hcb hm hok hA ?_
      have h2 : tagR id ((drawC P ops.toList).run (fun f args H => (entry P K f).run ih args H) env H) = .ok x env' H' := h
      unfold tagR at h2
      split at h2
      · simp at h2
      · exact h2
  | seq c1 c2 =>
    obtain ⟨h1, h2⟩ := band_true (show band (codeOk N c1) (codeOk N c2) = true from hok)
    exact ⟨wp_seq (seq c1 c2 h h1 h2).1, fun c' hc => by simp at hc⟩
  | cond c c1 c2 =>
    refine ⟨?_, fun c' hc => by simp at hc⟩
    obtain ⟨h1, h2⟩ := band_true (show band (codeOk N c1) (codeOk N c2) = true from hok)
    have h : condK (ih c1 env H) (ih c2 env H) ((gop c).run env) = .ok x env' H' := h
    unfold condK at h
    cases hg : (gop c).run env with
    | none => rw [hg] at h; exact absurd (show R.no [8] = R.ok x env' H' from h) (by simp)
    | some v =>
      rw [hg] at h
      cases hb : boolOf v with
      | none =>
        have h : (Option.rec (.no [8]) (fun c => Bool.rec (ih c2 env H) (ih c1 env H) c) (boolOf v) : R) = .ok x env' H' := h
        rw [hb] at h; exact absurd (show R.no [8] = R.ok x env' H' from h) (by simp)
      | some t =>
        have h : (Option.rec (.no [8]) (fun c => Bool.rec (ih c2 env H) (ih c1 env H) c) (boolOf v) : R) = .ok x env' H' := h
        rw [hb] at h
        have hv : v = .bool t := by
          unfold boolOf at hb
          split at hb
          · obtain rfl := Option.some.inj hb; rfl
          · simp at hb
        subst hv
        have hc := VR.bool_inv (gop_VR hA.env hg)
        refine wp_cond hc ?_
        cases t with
        | true => exact (hi c1 env H x env' H' h b N σ a w h1 hA).1
        | false => exact (hi c2 env H x env' H' h b N σ a w h2 hA).1
  | block id c1 =>
    refine ⟨?_, fun c' hc => by simp at hc⟩
    have h : blockK id (ih c1 env H) = .ok x env' H' := h
    refine wp_block ?_
    cases hr : ih c1 env H with
    | no l => rw [hr] at h; exact absurd (show R.no l = R.ok x env' H' from h) (by simp)
    | ok x1 env1 H1 =>
      rw [hr] at h
      have hw := (hi c1 env H x1 env1 H1 hr b N σ a w hok hA).1
      refine Code.wp_mono (fun e a1 w1 hd => ?_) hw
      obtain ⟨σ1, hx, hA1⟩ := hd
      cases x1 with
      | exit i =>
        cases e <;> first | exact hx.elim | skip
        rename_i j
        obtain rfl : i = j := hx
        have h : (Bool.rec (.ok (.exit i) env1 H1) (.ok .normal env1 H1) (Nat.beq i id) : R) = .ok x env' H' := h
        show if i = id then _ else _
        cases hb : Nat.beq i id with
        | true =>
          rw [hb] at h
          obtain ⟨rfl, rfl, rfl⟩ := R.ok.inj (show R.ok .normal env1 H1 = R.ok x env' H' from h)
          rw [if_pos (Nat.eq_of_beq_eq_true hb)]
          exact ⟨σ1, trivial, hA1⟩
        | false =>
          rw [hb] at h
          obtain ⟨rfl, rfl, rfl⟩ := R.ok.inj (show R.ok (.exit i) env1 H1 = R.ok x env' H' from h)
          rw [if_neg (Nat.ne_of_beq_eq_false hb)]
          exact ⟨σ1, rfl, hA1⟩
      | normal =>
        cases e <;> first | exact hx.elim | skip
        obtain ⟨rfl, rfl, rfl⟩ := R.ok.inj (show R.ok .normal env1 H1 = R.ok x env' H' from h)
        exact ⟨σ1, trivial, hA1⟩
      | goto i =>
        cases e <;> first | exact hx.elim | skip
        obtain ⟨rfl, rfl, rfl⟩ := R.ok.inj (show R.ok (.goto i) env1 H1 = R.ok x env' H' from h)
        exact ⟨σ1, hx, hA1⟩
      | ret =>
        cases e <;> first | exact hx.elim | skip
        obtain ⟨rfl, rfl, rfl⟩ := R.ok.inj (show R.ok .ret env1 H1 = R.ok x env' H' from h)
        exact ⟨σ1, trivial, hA1⟩
      | panic v =>
        cases e <;> first | exact hx.elim | skip
        obtain ⟨rfl, rfl, rfl⟩ := R.ok.inj (show R.ok (.panic v) env1 H1 = R.ok x env' H' from h)
        exact ⟨σ1, hx, hA1⟩
  | loop c1 =>
    have hr : Code.rounds P c1 (Done π B b N x env' H') (n + 1) a w := (seq c1 (.loop c1) h hok hok).2 c1 rfl
    exact ⟨wp_loop_rounds _ hr, fun c' hc => by obtain rfl := Code.loop.inj hc; exact hr⟩
  | exit id =>
    obtain ⟨rfl, rfl, rfl⟩ := R.ok.inj (show R.ok (.exit id) env H = R.ok x env' H' from h)
    exact ⟨wp_exit ⟨σ, rfl, hA⟩, fun c' hc => by simp at hc⟩
  | ret =>
    obtain ⟨rfl, rfl, rfl⟩ := R.ok.inj (show R.ok .ret env H = R.ok x env' H' from h)
    exact ⟨wp_ret ⟨σ, trivial, hA⟩, fun c' hc => by simp at hc⟩
  | rangeFunc f ps as bd => exact absurd (show R.no [9] = R.ok x env' H' from h) (by simp)
  | scope c => exact absurd (show R.no [9] = R.ok x env' H' from h) (by simp)
  | goto l => exact absurd (show R.no [9] = R.ok x env' H' from h) (by simp)
  | refuse s => exact absurd (show R.no [9] = R.ok x env' H' from h) (by simp)

theorem exec_ok (hπ : ∀ i, (π i).oneCell' = true) {K : Known} (hK : KnownOk π B P K) (hn : NamesOk P) (hm : P.follows .mixedOrders = true) : ∀ n, ExecOk π B P n (exec P K n)
  | 0 => fun c env H x env' H' h => absurd (show R.no [5] = R.ok x env' H' from h) (by simp)
  | n + 1 => step_ok hπ hK hn hm (exec_ok hπ hK hn hm n)

/-- A WHOLE CALL: where the second run answers, the model's call answers so. -/
theorem call_ok (hπ : ∀ i, (π i).oneCell' = true) {K : Known} (hK : KnownOk π B P K) (hn : NamesOk P) (hm : P.follows .mixedOrders = true) {n : Nat} {f : FuncId} {args : List AV} {H : Heap} {σ : Sg} {w : World} {xs : Array Value}
    (hS : SR π B σ H w) (hl : VRL π σ args xs.toList) (hf : (call P K n f args H).fine) : Goes P f xs w (CallR π B ⟨σ, w, H, []⟩ (call P K n f args H)) :=
  entry_ok hπ hK hn (exec_ok hπ hK hn hm n) f args H hf σ w xs hS hl

/-- FROM NOTHING: a call whose arguments are numbers, texts, open ones. -/
theorem call_true (hπ : ∀ i, (π i).oneCell' = true) {K : Known} {w : World} (hK : KnownOk π (topB w) P K) (hn : NamesOk P) (hm : P.follows .mixedOrders = true) {n : Nat} {f : FuncId} {args : List AV} {xs : Array Value}
    (hb : ∀ fn, P.funcs[f]? = some fn → fn.body.isSome = true) (hl : VRL π (fun _ => none) args xs.toList) (hf : isTrue (call P K n f args Heap.emp) = true) : Calls P f xs w fun e w' => e = .returned (.bool true) ∧ Below w.heap.size w w' := by
  have hS : SR π (topB w) (fun _ => none) Heap.emp w := by
    have hk : ∀ b o, Heap.emp.know b ≠ some o := fun b o h => by
      have := know_get h
      exact absurd (show none = some o from this) (by simp)
    exact ⟨⟨fun b o h => absurd h (hk b o), fun b b' o o' L L' h => absurd h (hk b o), fun _ _ => rfl⟩, fun _ _ => rfl, Nat.le_refl _⟩
  have hd : ∃ H', call P K n f args Heap.emp = .ret (.bool true) H' := by
    cases hc : call P K n f args Heap.emp with
    | ret v H' =>
      rw [hc] at hf
      unfold isTrue at hf
      split at hf
      · rename_i b H2 e
        obtain ⟨rfl, rfl⟩ := CR.ret.inj e
        exact ⟨_, by rw [hf]⟩
      · simp at hf
    | pan v H' => rw [hc] at hf; simp [isTrue] at hf
    | no l => rw [hc] at hf; simp [isTrue] at hf
  obtain ⟨H', hc⟩ := hd
  have hg := call_ok hπ hK hn hm (n := n) (f := f) hS hl (by rw [hc]; trivial)
  rw [hc] at hg
  have fin : ∀ e w', CallR π (topB w) ⟨fun _ => none, w, Heap.emp, []⟩ (.ret (.bool true) H') e w' → e = .returned (.bool true) ∧ Below w.heap.size w w' := by
    rintro e w' ⟨σ', x, rfl, hv, hS', hE, hN⟩
    obtain rfl := VR.bool_inv hv
    exact ⟨rfl, hE.os, hE.tape, hE.output, hE.size, fun k hk => hE.frame k hk fun b o L h => absurd (know_get h) (by intro h; exact absurd (show none = some o from h) (by simp))⟩
  rcases hg with ⟨_, h2⟩ | ⟨y, w', h1, _⟩
  · exact h2.mono fin
  · exfalso
    -- a function with a body is entered
    unfold call entry at hc
    split at hc
    · rename_i fn hfn
      have hbd := hb fn hfn
      obtain ⟨body, hbody⟩ := Option.isSome_iff_exists.1 hbd
      rw [enter_run hn hfn hbody] at h1
      simp at h1
    · exact absurd (show CR.no [7] = _ from hc) (by simp)

end
end Go.Proofs.Ytlnjikneepgpaaa.Fast
