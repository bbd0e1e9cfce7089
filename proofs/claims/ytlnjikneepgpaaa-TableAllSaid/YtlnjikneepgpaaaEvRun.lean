/- The second run of a code does what the model's does: regions without a draw, control, calls. -/
import Derived.Test.YtlnjikneepgpaaaEvOps2
import Derived.LoopN
namespace Go.Proofs.Ytlnjikneepgpaaa.Fast
section
variable {π : Nat → Value} {B : Bd} {P : Program}

/-- how a code is left -/
def ExR (π : Nat → Value) (σ : Sg) : Ex → Exit → Prop
  | .normal, .normal => True
  | .exit i, .exit j => i = j
  | .goto i, .goto j => i = j
  | .ret, .ret => True
  | .panic v, .panic chain => ∃ x, chain = [{ v := x, recovered := false }] ∧ VR π σ v x
  | _, _ => False

/-- from a state on -/
structure Base where
  σ : Sg
  w : World
  h : Heap
  d : List Deferred

structure At (π : Nat → Value) (B : Bd) (b : Base) (N : Nat) (σ : Sg) (env : Env) (H : Heap) (a : Act) (w : World) : Prop where
  env : EnvR π σ env a
  sr : SR π B σ H w
  ext : Ext b.σ b.h.know b.w σ H.know w
  nx : Nx b.σ b.h σ H
  tm : N ≤ a.tmps.size
  df : a.defers = b.d

def Done (π : Nat → Value) (B : Bd) (b : Base) (N : Nat) (x : Ex) (env : Env) (H : Heap) : Exit → Act → World → Prop :=
  fun e a w => ∃ σ, ExR π σ x e ∧ At π B b N σ env H a w

def CallR (π : Nat → Value) (B : Bd) (b : Base) : CR → Ending → World → Prop
  | .ret v H, e, w => ∃ σ x, e = .returned x ∧ VR π σ v x ∧ SR π B σ H w ∧ Ext b.σ b.h.know b.w σ H.know w ∧ Nx b.σ b.h σ H
  | .pan v H, e, w => ∃ σ x, e = .panicked [{ v := x, recovered := false }] ∧ VR π σ v x ∧ SR π B σ H w ∧ Ext b.σ b.h.know b.w σ H.know w ∧ Nx b.σ b.h σ H
  | .no _, _, _ => True

/-- a call of a function: of the program's, or of one that the model knows -/
def Goes (P : Program) (f : FuncId) (xs : Array Value) (w : World) (R : Ending → World → Prop) : Prop :=
  ((callFunc f xs).run P w = .ok (.enter f xs) w ∧ Calls P f xs w R) ∨ ∃ x w', (callFunc f xs).run P w = .ok (.value x) w' ∧ R (.returned x) w'

def CR.fine : CR → Prop
  | .no _ => False
  | _ => True

def CbOk (π : Nat → Value) (B : Bd) (P : Program) (cb : Cb) : Prop :=
  ∀ f args H, (cb f args H).fine → ∀ σ w (xs : Array Value), SR π B σ H w → VRL π σ args xs.toList → Goes P f xs w (CallR π B ⟨σ, w, H, []⟩ (cb f args H))

/-- the run behind an operation -/
def opK (k : Cb → Env → Heap → R) (put : Env → AV → Env) (cb : Cb) (env : Env) : Heap → OR → R
  | _, .val v H' => k cb (put env v) H'
  | H, .call f args => match cb f args H with
    | .ret v H' => k cb (put env v) H'
    | .pan v H' => .ok (.panic v) env H'
    | .no w => .no (f :: w)
  | _, .pan v H' => .ok (.panic v) env H'
  | _, .no => .no [2]

theorem opC_eq (o : Oper) (rest : W (Cb → Env → Heap → R)) (cb : Cb) (env : Env) (H : Heap) : (opC P o rest).run cb env H = opK rest.run (putC o).run cb env H ((aop P o).run env H) := by
  have key : ∀ g, pureOf P o = .p g → (aop P o).run env H = vo H (g env) := by
    intro g hg
    unfold pureOf at hg
    unfold aop
    split at hg
    · rename_i x h
      rw [h]
      obtain rfl := OpF.p.inj (show OpF.p (gop x).run = OpF.p g from hg)
      rfl
    · rename_i x h
      rw [h]
      obtain rfl := OpF.p.inj (show OpF.p (gop x).run = OpF.p g from hg)
      rfl
    · rename_i op t x y u h
      rw [h]
      obtain rfl := OpF.p.inj (show OpF.p (fun env => Option.rec none (fun a => Option.rec none (fun b => binA (binF P op t x y) a b) ((gop y).run env)) ((gop x).run env)) = OpF.p g from hg)
      dsimp only
      cases (gop x).run env with
      | none => rfl
      | some u => cases (gop y).run env <;> rfl
    · exact absurd (show OpF.f (aop P o).run = OpF.p g from hg) (by simp)
  have key2 : ∀ g, pureOf P o = .f g → (aop P o).run env H = g env H := by
    intro g hg
    unfold pureOf at hg
    split at hg
    · rename_i x h; exact absurd (show OpF.p (gop x).run = OpF.f g from hg) (by simp)
    · rename_i x h; exact absurd (show OpF.p (gop x).run = OpF.f g from hg) (by simp)
    · rename_i op t x y u h
      exact absurd (show OpF.p (fun env => Option.rec none (fun a => Option.rec none (fun b => binA (binF P op t x y) a b) ((gop y).run env)) ((gop x).run env)) = OpF.f g from hg) (by simp)
    · obtain rfl := OpF.f.inj (show OpF.f (aop P o).run = OpF.f g from hg); rfl
  have hu : (opC P o rest).run cb env H = (OpF.rec (motive := fun _ => W (Cb → Env → Heap → R))
      (fun g => ⟨fun cb env H => Option.rec (.no [2]) (fun v => rest.run cb ((putC o).run env v) H) (g env)⟩)
      (fun g => ⟨fun cb env H => OR.rec (fun v H' => rest.run cb ((putC o).run env v) H')
        (fun f args => CR.rec (fun v H' => rest.run cb ((putC o).run env v) H') (fun v H' => .ok (.panic v) env H') (fun w => .no (f :: w)) (cb f args H))
        (fun v H' => .ok (.panic v) env H') (.no [2]) (g env H)⟩) (pureOf P o)).run cb env H := rfl
  rw [hu]
  cases hp : pureOf P o with
  | p g =>
    rw [key g hp]
    show (Option.rec (.no [2]) (fun v => rest.run cb ((putC o).run env v) H) (g env) : R) = _
    cases g env <;> rfl
  | f g =>
    rw [key2 g hp]
    show (OR.rec (fun v H' => rest.run cb ((putC o).run env v) H')
        (fun f args => CR.rec (fun v H' => rest.run cb ((putC o).run env v) H') (fun v H' => .ok (.panic v) env H') (fun w => .no (f :: w)) (cb f args H))
        (fun v H' => .ok (.panic v) env H') (.no [2]) (g env H) : R) = _
    cases g env H with
    | call f args =>
      show (CR.rec (fun v H' => rest.run cb ((putC o).run env v) H') (fun v H' => .ok (.panic v) env H') (fun w => .no (f :: w)) (cb f args H) : R) = (match cb f args H with | .ret v H' => _ | .pan v H' => _ | .no w => _)
      cases cb f args H <;> rfl
    | _ => rfl

theorem put_ok {σ : Sg} {env : Env} {a : Act} {o : Oper} {N : Nat} {v : AV} {x : Value} (he : EnvR π σ env a) (hv : VR π σ v x) (hN : N ≤ a.tmps.size) (hd : (Option.rec true (fun d => Nat.blt d N) o.dst : Bool) = true) :
    EnvR π σ ((putC o).run env v) (a.put o.dst x) ∧ N ≤ (a.put o.dst x).tmps.size ∧ (a.put o.dst x).defers = a.defers := by
  unfold putC
  cases hdst : o.dst with
  | none => exact ⟨he, hN, rfl⟩
  | some d =>
    rw [hdst] at hd
    have hlt : d < N := blt_lt hd
    refine ⟨fun t u hu => ?_, by simp [Act.put, hN], rfl⟩
    rcases get_set 3 d t env v u hu with ⟨rfl, rfl⟩ | ⟨h1, h2⟩
    · refine ⟨x, ?_, hv⟩
      have : t < a.tmps.size := Nat.lt_of_lt_of_le hlt hN
      simp [Act.put, this]
    · obtain ⟨y, h3, h4⟩ := he t u h2
      exact ⟨y, by simp [Act.put, Ne.symm h1, h3], h4⟩

theorem opsOk_cons {N : Nat} {o : Oper} {l : List Oper} (h : opsOk N (o :: l) = true) : (Option.rec true (fun d => Nat.blt d N) o.dst : Bool) = true ∧ opsOk N l = true := band_true h

def boolV : Value → Option Bool
  | .bool b => some b
  | _ => none

theorem want_ok {σ : Sg} {env : Env} {a : Act} {ops : Array Oper} {o : Oper} {b : Bool} (he : EnvR π σ env a) (h : (wantC ops.toList o).run env = some b) : Region.wanted o (yielded ops a.tmps) = b := by
  unfold wantC at h
  split at h
  · rename_i hg
    obtain rfl := Option.some.inj (show some true = some b from h)
    simp [Region.wanted, hg]
  · rename_i j want hg
    split at h
    · rename_i d hd
      obtain ⟨v, h1, h2⟩ := obind_some (show obind (env.get d) (isB want) = some b from h)
      obtain ⟨oj, h3, h4⟩ := obind_some hd
      rw [nth_eq, Array.getElem?_toList] at h3
      obtain ⟨x, h5, h6⟩ := he d v h1
      have hy : yielded ops a.tmps j = boolV x := by
        unfold yielded
        rw [h3]
        simp only [Option.bind_some]
        rw [h4]
        simp only [Option.bind_some, h5]
        cases x <;> rfl
      unfold isB at h2
      split at h2
      · obtain rfl := VR.bool_inv h6
        obtain rfl := Option.some.inj h2
        simp [Region.wanted, hg, hy, beqB_eq, boolV]
      · obtain rfl := Option.some.inj h2
        cases h6
        simp [Region.wanted, hg, hy, boolV]
      · simp at h2
    · exact absurd (show none = some b from h) (by simp)

theorem Ext.of_ext {σ σ' : Sg} {K K' : Know} {w w' : World} (h : Ext σ K w σ' K' w') : Sg.le σ σ' := h.sg

/-- a region in its text's order -/
theorem ops_ok (hπ : ∀ i, (π i).oneCell' = true) {cb : Cb} (hcb : CbOk π B P cb) {ops : Array Oper} {b : Base} {N : Nat} {x : Ex} {env' : Env} {H' : Heap} : ∀ (l : List Oper) (σ : Sg) (env : Env) (H : Heap) (a : Act) (w : World), opsOk N l = true → At π B b N σ env H a w →
    (opsC P ops.toList l).run cb env H = .ok x env' H' → wpList P ops (Done π B b N x env' H') l a w := by
  intro l
  induction l with
  | nil =>
    intro σ env H a w _ hA h
    obtain ⟨rfl, rfl, rfl⟩ := R.ok.inj (show R.ok .normal env H = R.ok x env' H' from h)
    exact ⟨σ, trivial, hA⟩
  | cons o l ih =>
    intro σ env H a w hok hA h
    obtain ⟨hd, hok'⟩ := opsOk_cons hok
    have next : ∀ (σ' : Sg) (v : AV) (y : Value) (w' : World) (H1 : Heap), VR π σ' v y → SR π B σ' H1 w' → Ext σ H.know w σ' H1.know w' → Nx σ H σ' H1 →
        (opsC P ops.toList l).run cb ((putC o).run env v) H1 = .ok x env' H' → wpList P ops (Done π B b N x env' H') l (a.put o.dst y) w' := by
      intro σ' v y w' H1 hv hS hE hn hr
      obtain ⟨e1, e2, e3⟩ := put_ok (o := o) (hA.env.mono hE.sg) hv hA.tm hd
      exact ih σ' _ H1 _ w' hok' ⟨e1, hS, hA.ext.trans hE, hA.nx.trans hn, e2, e3.trans hA.df⟩ hr
    have here : (opC P o (opsC P ops.toList l)).run cb env H = .ok x env' H' → o.wp P a w (wpList P ops (Done π B b N x env' H') l) (Done π B b N x env' H') := by
      intro h
      rw [opC_eq] at h
      have hop := aop_ok (P := P) (o := o) hπ hA.sr hA.env
      unfold Oper.wp
      cases hr : (aop P o).run env H with
      | val v H1 =>
        rw [hr] at hop h
        obtain ⟨σ', y, w', hy, hv, hS, hE, hn⟩ := hop
        rcases hy with hy | ⟨hy, rfl⟩
        · rw [hy, Oper.upon_value]; exact next σ' v y w' H1 hv hS hE hn h
        · rw [hy, Oper.upon_skip]; exact next σ' v undef w' H1 hv hS hE hn h
      | call f args =>
        rw [hr] at hop h
        obtain ⟨xs, hx, hl⟩ := hop
        have hc := hcb f args H
        unfold opK at h
        simp only at h
        cases hcf : cb f args H with
        | ret v H1 =>
          rw [hcf] at hc h
          have hh := hc trivial σ w xs hA.sr hl
          have hk : ∀ (e : Ending) (w' : World), CallR π B ⟨σ, w, H, []⟩ (.ret v H1) e w' → (match e with | .returned y => wpList P ops (Done π B b N x env' H') l (a.put o.dst y) w' | .panicked c => Done π B b N x env' H' (.panic c) a w' | .outgrown => LetsOut (Done π B b N x env' H')) := by
            rintro e w' ⟨σ', y, rfl, hv, hS, hE, hn⟩
            exact next σ' v y w' H1 hv hS hE hn h
          rcases hh with ⟨h1, h2⟩ | ⟨y, w', h1, h2⟩
          · rw [hx, h1, Oper.upon_enter]
            refine h2.mono fun e w' hr => ?_
            have := hk e w' hr
            cases e <;> exact this
          · rw [hx, h1, Oper.upon_value]
            exact hk _ _ h2
        | pan v H1 =>
          rw [hcf] at hc h
          have hh := hc trivial σ w xs hA.sr hl
          obtain ⟨rfl, rfl, rfl⟩ := R.ok.inj h
          rcases hh with ⟨h1, h2⟩ | ⟨y, w', h1, h2⟩
          · rw [hx, h1, Oper.upon_enter]
            refine h2.mono fun e w' hr => ?_
            obtain ⟨σ', y, rfl, hv, hS, hE, hn⟩ := hr
            exact ⟨σ', ⟨y, rfl, hv⟩, hA.env.mono hE.sg, hS, hA.ext.trans hE, hA.nx.trans hn, hA.tm, hA.df⟩
          · obtain ⟨_, _, h3, _⟩ := h2
            exact absurd h3 (by simp)
        | no w' => rw [hcf] at h; exact absurd h (by simp)
      | pan v H1 =>
        rw [hr] at hop h
        obtain ⟨σ', y, w', hy, hv, hS, hE, hn⟩ := hop
        obtain ⟨rfl, rfl, rfl⟩ := R.ok.inj (show R.ok (.panic v) env H1 = R.ok x env' H' from h)
        rw [hy, Oper.upon_panic]
        exact ⟨σ', ⟨y, rfl, hv⟩, hA.env.mono hE.sg, hS, hA.ext.trans hE, hA.nx.trans hn, hA.tm, hA.df⟩
      | no => rw [hr] at h; exact absurd (show R.no [2] = R.ok x env' H' from h) (by simp)
    have h' : (guardC ops.toList o (opsC P ops.toList l) (opC P o (opsC P ops.toList l))).run cb env H = .ok x env' H' := h
    unfold guardC at h'
    unfold wpList
    split at h'
    · rename_i hg
      rw [if_pos (by simp [Region.wanted, hg])]
      exact .inl (here h')
    · rename_i g hg
      have h2 : (Option.rec (.no [1]) (fun c => Bool.rec ((opsC P ops.toList l).run cb ((putC o).run env (.tuple [])) H) ((opC P o (opsC P ops.toList l)).run cb env H) c) ((wantC ops.toList o).run env) : R) = .ok x env' H' := h'
      cases hw : (wantC ops.toList o).run env with
      | none => rw [hw] at h2; exact absurd (show R.no [1] = R.ok x env' H' from h2) (by simp)
      | some c =>
        rw [hw] at h2
        have hwt := want_ok (ops := ops) hA.env hw
        cases c with
        | true => rw [if_pos hwt]; exact .inl (here h2)
        | false =>
          rw [if_neg (by rw [hwt]; simp)]
          exact next σ (.tuple []) undef w H undef_VR hA.sr (Ext.refl _ _ _) (Nx.refl _ _) h2

end
end Go.Proofs.Ytlnjikneepgpaaa.Fast
