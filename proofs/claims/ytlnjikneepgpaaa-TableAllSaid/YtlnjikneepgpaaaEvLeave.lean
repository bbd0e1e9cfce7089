/- Calls that are put off to a function's end, and what they recover. -/
import Derived.Test.YtlnjikneepgpaaaEvExec0
import Derived.Recover
namespace Go.Proofs.Ytlnjikneepgpaaa.Fast
section
variable {π : Nat → Value} {B : Bd} {P : Program}

/-- both what follows and how it is left may say more -/
theorem Oper.wp_mono2 {o : Oper} {a : Act} {w : World} {K K' : Act → World → Prop} {Q Q' : Exit → Act → World → Prop} (h : ∀ a w, K a w → K' a w) (hq : ∀ e a w, e ≠ .normal → Q e a w → Q' e a w)
    (hh : o.wp P a w K Q) : o.wp P a w K' Q' := by
  unfold Oper.wp at *
  generalize (execOp a.eval o).run P w = r at *
  cases r with
  | ok n w' =>
    cases n <;> simp only [Oper.upon] at hh ⊢ <;>
      first
        | exact h _ _ hh
        | exact Calls.mono hh (fun e w'' he => by cases e <;> first | exact h _ _ he | exact hq _ _ _ (by simp) he | exact (let ⟨a0, w0, h0⟩ := he; ⟨a0, w0, hq _ _ _ (by simp) h0⟩))
        | exact Rows.mono hh (fun _ _ he => h _ _ he)
  | halt x w' => cases x <;> simp only [Oper.upon] at hh ⊢ <;> first | exact hq _ _ _ (by simp) hh | exact hh

theorem wpS_mono {c : Code} {a : Act} {cs : List Frame} {w : World} {Q Q' : Exit → Act → List Frame → World → Prop} (h : ∀ e a cs w, Q e a cs w → Q' e a cs w) (hh : c.wpS P Q a cs w) : c.wpS P Q' a cs w :=
  fun b k hb hr => let ⟨e, a', cs', w', q, r⟩ := hh b k hb hr; ⟨e, a', cs', w', h _ _ _ _ q, r⟩

/-- a call put off -/
def DefV (π : Nat → Value) (σ : Sg) (v : AV) (d : Deferred) : Prop :=
  ∃ f l m xs ys, v = .func (.func f) l m ∧ d = { target := .fn (.func f) ys, args := xs } ∧ VRL π σ l xs.toList ∧ VRL π σ m ys.toList

inductive DefsR (π : Nat → Value) (σ : Sg) : List AV → List Deferred → Prop
  | nil : DefsR π σ [] []
  | cons {v d ds D} : DefV π σ v d → DefsR π σ ds D → DefsR π σ (v :: ds) (d :: D)

theorem DefV.mono {σ σ' : Sg} (h : Sg.le σ σ') {v : AV} {d : Deferred} : DefV π σ v d → DefV π σ' v d :=
  fun ⟨f, l, m, xs, ys, h1, h2, h3, h4⟩ => ⟨f, l, m, xs, ys, h1, h2, h3.mono h, h4.mono h⟩
theorem DefsR.mono {σ σ' : Sg} (h : Sg.le σ σ') : ∀ {ds : List AV} {D : List Deferred}, DefsR π σ ds D → DefsR π σ' ds D
  | _, _, .nil => .nil
  | _, _, .cons h1 h2 => .cons (h1.mono h) (DefsR.mono h h2)

theorem putOff_ok {σ : Sg} {env : Env} {a : Act} {w : World} (he : EnvR π σ env a) {o : Oper} {c : Call} (hop : o.op = .defer c) {v : AV} (h : (putOff c).run env = some v) : ∃ d, (execOp a.eval o).run P w = .ok (.defer d) w ∧ DefV π σ v d := by
  obtain ⟨callee, args, ts⟩ := c
  unfold putOff at h
  split at h
  · rename_i f hc
    simp only at hc
    subst hc
    obtain ⟨u, h1, h2⟩ := obind_some h
    obtain ⟨q, h3, h4⟩ := obind_some h2
    obtain ⟨l, h5, h6⟩ := obind_some h4
    obtain rfl := Option.some.inj h6
    obtain rfl := funcOf_some h3
    have hx := gop_VR he h1
    generalize hy : a.eval f = y at hx
    cases hx with
    | func _ _ _ xs ys g1 g2 =>
      refine ⟨{ target := .fn (.func q.1) ys, args := xs ++ args.map a.eval }, ?_, q.1, _, _, _, _, rfl, rfl, ?_, g2⟩
      · simp [execOp, hop, resolve, hy, Deferred.ofValue]
      · rw [app_eq]
        have h3 := gops_VR he h5
        simp only [Array.toList_append, Array.toList_map]
        exact VRL.append g1 h3
  · exact absurd (show none = some v from h) (by simp)

def Base.withD (b : Base) (D : List Deferred) : Base := ⟨b.σ, b.w, b.h, D⟩

def DoneX (π : Nat → Value) (B : Bd) (b : Base) (N : Nat) (x : Ex) (env : Env) (H : Heap) (ds : List AV) : Exit → Act → World → Prop :=
  fun e a w => ∃ σ D, ExR π σ x e ∧ DefsR π σ ds D ∧ At π B (b.withD D) N σ env H a w

/-- from a state's own base to an elder one -/
theorem At.back {b : Base} {N : Nat} {σ σ1 : Sg} {env env1 : Env} {H H1 : Heap} {a a1 : Act} {w w1 : World} {D : List Deferred} (h : At π B (b.withD D) N σ env H a w) (h1 : At π B ⟨σ, w, H, D⟩ N σ1 env1 H1 a1 w1) : At π B (b.withD D) N σ1 env1 H1 a1 w1 :=
  ⟨h1.env, h1.sr, h.ext.trans h1.ext, h.nx.trans h1.nx, h1.tm, h1.df⟩

theorem DoneX.of {b : Base} {N : Nat} {σ : Sg} {env env1 : Env} {H H1 : Heap} {a a1 : Act} {w w1 : World} {D : List Deferred} {ds : List AV} {x : Ex} {e : Exit} (h : At π B (b.withD D) N σ env H a w) (hd : DefsR π σ ds D)
    (h1 : Done π B ⟨σ, w, H, D⟩ N x env1 H1 e a1 w1) : DoneX π B b N x env1 H1 ds e a1 w1 :=
  let ⟨σ1, hx, hA⟩ := h1
  ⟨σ1, D, hx, hd.mono hA.ext.sg, h.back hA⟩

/-- one operation by itself -/
theorem one_op (hπ : ∀ i, (π i).oneCell' = true) {cb : Cb} (hcb : CbOk π B P cb) {ops : Array Oper} {b : Base} {N : Nat} {σ : Sg} {env : Env} {H : Heap} {a : Act} {w : World} {o : Oper} {x : Ex} {env1 : Env} {H1 : Heap}
    (hok : opsOk N [o] = true) (hA : At π B b N σ env H a w) (h : opsRun P cb ops.toList [o] env H = .ok x env1 H1) :
    if Region.wanted o (yielded ops a.tmps) then o.wp P a w (Done π B b N x env1 H1 .normal) (Done π B b N x env1 H1) else Done π B b N x env1 H1 .normal (a.put o.dst undef) w := by
  have := ops_ok hπ hcb (ops := ops) [o] σ env H a w hok hA h
  unfold wpList at this
  split at this
  · rename_i hw
    rw [if_pos hw]
    rcases this with h | ⟨_, a0, w0, _, h0, _⟩
    · exact h
    · cases x <;> exact h0.elim
  · rename_i hw
    rw [if_neg hw]
    exact this

theorem opsX_ok (hπ : ∀ i, (π i).oneCell' = true) {cb : Cb} (hcb : CbOk π B P cb) {ops : Array Oper} {b : Base} {N : Nat} {x : Ex} {env' : Env} {H' : Heap} {ds' : List AV} : ∀ (l : List Oper) (σ : Sg) (env : Env) (H : Heap) (ds : List AV) (D : List Deferred) (a : Act) (w : World),
    opsOk N l = true → DefsR π σ ds D → At π B (b.withD D) N σ env H a w → opsX P cb ops.toList l env H ds = .ok x env' H' ds' → wpList P ops (DoneX π B b N x env' H' ds') l a w := by
  intro l
  induction l with
  | nil =>
    intro σ env H ds D a w _ hd hA h
    obtain ⟨rfl, rfl, rfl, rfl⟩ := RX.ok.inj (show RX.ok .normal env H ds = .ok x env' H' ds' from h)
    exact ⟨σ, D, trivial, hd, hA⟩
  | cons o l ih =>
    intro σ env H ds D a w hok hd hA h
    obtain ⟨hdst, hok'⟩ := opsOk_cons hok
    have hok1 : opsOk N [o] = true := by show band _ true = true; rw [hdst]; rfl
    have plain : seqX (opsX P cb ops.toList l) (withD ds (opsRun P cb ops.toList [o] env H)) = .ok x env' H' ds' → wpList P ops (DoneX π B b N x env' H' ds') (o :: l) a w := by
      intro h
      cases hr : opsRun P cb ops.toList [o] env H with
      | no q => rw [hr] at h; exact absurd (show RX.no q = _ from h) (by simp)
      | ok x1 env1 H1 =>
        rw [hr] at h
        have h1 := one_op hπ hcb (ops := ops) hok1 hA.here hr
        have key : ∀ e a1 w1, Done π B ⟨σ, w, H, (b.withD D).d⟩ N x1 env1 H1 e a1 w1 → (e = .normal → wpList P ops (DoneX π B b N x env' H' ds') l a1 w1) ∧ (e ≠ .normal → DoneX π B b N x env' H' ds' e a1 w1) := by
          intro e a1 w1 hD
          have hX := DoneX.of (D := D) hA hd hD
          obtain ⟨σ1, D1, g1, g2, g3⟩ := hX
          refine ⟨fun he => ?_, fun he => ?_⟩
          · subst he
            cases x1 <;> first | exact g1.elim | skip
            exact ih σ1 env1 H1 ds D1 a1 w1 hok' g2 g3 h
          · cases x1 with
            | normal => cases e <;> first | exact g1.elim | exact absurd rfl he
            | _ =>
              obtain ⟨rfl, rfl, rfl, rfl⟩ := RX.ok.inj (show RX.ok _ env1 H1 ds = .ok x env' H' ds' from h)
              exact ⟨σ1, D1, g1, g2, g3⟩
        unfold wpList
        split
        · rename_i hw
          rw [if_pos hw] at h1
          refine .inl (Oper.wp_mono2 (fun a1 w1 h => (key _ a1 w1 h).1 rfl) (fun e a1 w1 he h => (key e a1 w1 h).2 he) h1)
        · rename_i hw
          rw [if_neg hw] at h1
          exact (key _ _ _ h1).1 rfl
    have h' : (match o.op, o.guard with
      | .defer c, none => Option.rec (.no [70]) (fun v => opsX P cb ops.toList l ((putC o).run env (.tuple [])) H (v :: ds)) ((putOff c).run env)
      | .defer _, some _ => .no [71]
      | _, _ => seqX (opsX P cb ops.toList l) (withD ds (opsRun P cb ops.toList [o] env H)) : RX) = .ok x env' H' ds' := h
    split at h'
    · rename_i c hop hg
      have h2 : (Option.rec (.no [70]) (fun v => opsX P cb ops.toList l ((putC o).run env (.tuple [])) H (v :: ds)) ((putOff c).run env) : RX) = .ok x env' H' ds' := h'
      cases hp : (putOff c).run env with
      | none => rw [hp] at h2; exact absurd (show RX.no [70] = _ from h2) (by simp)
      | some v =>
        rw [hp] at h2
        obtain ⟨d, h3, h4⟩ := putOff_ok (w := w) hA.env hop hp
        unfold wpList
        rw [if_pos (by simp [Region.wanted, hg])]
        refine .inl ?_
        unfold Oper.wp
        rw [h3, Oper.upon_defer]
        obtain ⟨e1, e2, e3⟩ := put_ok (o := o) (a := { a with defers := d :: a.defers }) (v := .tuple []) (x := undef) hA.env undef_VR hA.tm hdst
        exact ih σ _ H (v :: ds) (d :: D) _ w hok' (.cons h4 hd) ⟨e1, hA.sr, hA.ext, hA.nx, e2, e3.trans (by show d :: a.defers = d :: D; rw [hA.df]; rfl)⟩ h2
    · exact absurd h' (by simp)
    · exact plain h'

theorem execX_ok (hπ : ∀ i, (π i).oneCell' = true) {cb : Cb} (hcb : CbOk π B P cb) {n : Nat} {ih : Ih} (hi : ExecOk π B P n ih) {b : Base} {N : Nat} : ∀ (c : Code) {x : Ex} {env' : Env} {H' : Heap} {ds' : List AV} (σ : Sg) (env : Env) (H : Heap) (ds : List AV) (D : List Deferred) (a : Act) (w : World),
    codeOk N c = true → DefsR π σ ds D → At π B (b.withD D) N σ env H a w → execX P cb ih c env H ds = .ok x env' H' ds' → c.wp P (DoneX π B b N x env' H' ds') a w := by
  intro c
  have plain : ∀ (c : Code) {x : Ex} {env' : Env} {H' : Heap} {ds' : List AV} (σ : Sg) (env : Env) (H : Heap) (ds : List AV) (D : List Deferred) (a : Act) (w : World), codeOk N c = true → DefsR π σ ds D → At π B (b.withD D) N σ env H a w →
      withD ds (ih c env H) = .ok x env' H' ds' → c.wp P (DoneX π B b N x env' H' ds') a w := by
    intro c x env' H' ds' σ env H ds D a w hok hd hA h
    cases hr : ih c env H with
    | no q => rw [hr] at h; exact absurd (show RX.no q = _ from h) (by simp)
    | ok x1 env1 H1 =>
      rw [hr] at h
      obtain ⟨rfl, rfl, rfl, rfl⟩ := RX.ok.inj (show RX.ok x1 env1 H1 ds = .ok x env' H' ds' from h)
      exact Code.wp_mono (fun e a1 w1 hD => DoneX.of (D := D) hA hd hD) (hi c env H x1 env1 H1 hr _ N σ a w hok hA.here).1
  induction c with
  | skip =>
    intro x env' H' ds' σ env H ds D a w _ hd hA h
    obtain ⟨rfl, rfl, rfl, rfl⟩ := RX.ok.inj (show RX.ok .normal env H ds = .ok x env' H' ds' from h)
    exact wp_skip ⟨σ, D, trivial, hd, hA⟩
  | region id ops draw =>
    intro x env' H' ds' σ env H ds D a w hok hd hA h
    have h : (Bool.rec (withD ds (ih (.region id ops draw) env H)) (Bool.rec (opsX P cb ops.toList ops.toList env H ds) (.no [72]) draw) (anyO isDefO ops.toList) : RX) = .ok x env' H' ds' := h
    cases hb : anyO isDefO ops.toList with
    | false => rw [hb] at h; exact plain _ σ env H ds D a w hok hd hA h
    | true =>
      rw [hb] at h
      cases draw with
      | true => exact absurd (show RX.no [72] = _ from h) (by simp)
      | false => exact wp_region_list (opsX_ok hπ hcb ops.toList σ env H ds D a w hok hd hA h)
  | seq c1 c2 ih1 ih2 =>
    intro x env' H' ds' σ env H ds D a w hok hd hA h
    have h : (Bool.rec (withD ds (ih (.seq c1 c2) env H)) (seqX (execX P cb ih c2) (execX P cb ih c1 env H ds)) (hasC isDefO (.seq c1 c2)) : RX) = .ok x env' H' ds' := h
    cases hb : hasC isDefO (.seq c1 c2) with
    | false => rw [hb] at h; exact plain _ σ env H ds D a w hok hd hA h
    | true =>
      rw [hb] at h
      have h : seqX (execX P cb ih c2) (execX P cb ih c1 env H ds) = .ok x env' H' ds' := h
      obtain ⟨k1, k2⟩ := band_true (show band (codeOk N c1) (codeOk N c2) = true from hok)
      cases hr : execX P cb ih c1 env H ds with
      | no q => rw [hr] at h; exact absurd (show RX.no q = _ from h) (by simp)
      | ok x1 env1 H1 ds1 =>
        rw [hr] at h
        refine wp_seq (Code.wp_mono (fun e a1 w1 hD => ?_) (ih1 σ env H ds D a w k1 hd hA hr))
        obtain ⟨σ1, D1, g1, g2, g3⟩ := hD
        cases x1 with
        | normal =>
          cases e <;> first | exact g1.elim | skip
          exact ih2 σ1 env1 H1 ds1 D1 a1 w1 k2 g2 g3 h
        | exit i =>
          cases e <;> first | exact g1.elim | skip
          obtain ⟨rfl, rfl, rfl, rfl⟩ := RX.ok.inj (show RX.ok _ env1 H1 ds1 = .ok x env' H' ds' from h)
          exact ⟨σ1, D1, g1, g2, g3⟩
        | goto i =>
          cases e <;> first | exact g1.elim | skip
          obtain ⟨rfl, rfl, rfl, rfl⟩ := RX.ok.inj (show RX.ok _ env1 H1 ds1 = .ok x env' H' ds' from h)
          exact ⟨σ1, D1, g1, g2, g3⟩
        | ret =>
          cases e <;> first | exact g1.elim | skip
          obtain ⟨rfl, rfl, rfl, rfl⟩ := RX.ok.inj (show RX.ok _ env1 H1 ds1 = .ok x env' H' ds' from h)
          exact ⟨σ1, D1, g1, g2, g3⟩
        | panic v =>
          cases e <;> first | exact g1.elim | skip
          obtain ⟨rfl, rfl, rfl, rfl⟩ := RX.ok.inj (show RX.ok _ env1 H1 ds1 = .ok x env' H' ds' from h)
          exact ⟨σ1, D1, g1, g2, g3⟩
  | cond c c1 c2 _ _ => intro x env' H' ds' σ env H ds D a w hok hd hA h; exact plain _ σ env H ds D a w hok hd hA h
  | block i c1 _ => intro x env' H' ds' σ env H ds D a w hok hd hA h; exact plain _ σ env H ds D a w hok hd hA h
  | loop c1 _ => intro x env' H' ds' σ env H ds D a w hok hd hA h; exact plain _ σ env H ds D a w hok hd hA h
  | exit i => intro x env' H' ds' σ env H ds D a w hok hd hA h; exact plain _ σ env H ds D a w hok hd hA h
  | ret => intro x env' H' ds' σ env H ds D a w hok hd hA h; exact plain _ σ env H ds D a w hok hd hA h
  | rangeFunc f ps c1 c2 _ _ => intro x env' H' ds' σ env H ds D a w _ _ _ h; exact absurd (show RX.no [73] = _ from h) (by simp)
  | scope c1 _ => intro x env' H' ds' σ env H ds D a w _ _ _ h; exact absurd (show RX.no [73] = _ from h) (by simp)
  | label l => intro x env' H' ds' σ env H ds D a w _ _ _ h; exact absurd (show RX.no [73] = _ from h) (by simp)
  | goto l => intro x env' H' ds' σ env H ds D a w _ _ _ h; exact absurd (show RX.no [73] = _ from h) (by simp)
  | refuse s => intro x env' H' ds' σ env H ds D a w _ _ _ h; exact absurd (show RX.no [73] = _ from h) (by simp)

/- a deferred call's own body -/
inductive MdR (π : Nat → Value) (σ : Sg) : Md → FrameMode → Prop
  | ret : MdR π σ .ret .returning
  | pan (v x) : VR π σ v x → MdR π σ (.pan v) (.panicking [{ v := x, recovered := false }])
  | over (v x) : VR π σ v x → MdR π σ (.over v) (.panicking [{ v := x, recovered := true }])

theorem MdR.mono {σ σ' : Sg} (h : Sg.le σ σ') : ∀ {m : Md} {u : FrameMode}, MdR π σ m u → MdR π σ' m u
  | _, _, .ret => .ret
  | _, _, .pan v x a => .pan v x (a.mono h)
  | _, _, .over v x a => .over v x (a.mono h)

def DoneS (π : Nat → Value) (B : Bd) (b : Base) (N : Nat) (c0 : Frame) (cs : List Frame) (x : Ex) (env : Env) (H : Heap) (m : Md) : Exit → Act → List Frame → World → Prop :=
  fun e a cs' w => ∃ σ u, ExR π σ x e ∧ MdR π σ m u ∧ cs' = { c0 with mode := u } :: cs ∧ At π B b N σ env H a w

theorem At.back1 {b : Base} {N : Nat} {σ σ1 : Sg} {env env1 : Env} {H H1 : Heap} {a a1 : Act} {w w1 : World} (h : At π B b N σ env H a w) (h1 : At π B ⟨σ, w, H, b.d⟩ N σ1 env1 H1 a1 w1) : At π B b N σ1 env1 H1 a1 w1 :=
  ⟨h1.env, h1.sr, h.ext.trans h1.ext, h.nx.trans h1.nx, h1.tm, h1.df⟩

theorem DoneS.of {b : Base} {N : Nat} {σ : Sg} {env env1 : Env} {H H1 : Heap} {a a1 : Act} {w w1 : World} {c0 : Frame} {cs : List Frame} {m : Md} {u : FrameMode} {x : Ex} {e : Exit} (h : At π B b N σ env H a w) (hm : MdR π σ m u)
    (h1 : Done π B ⟨σ, w, H, b.d⟩ N x env1 H1 e a1 w1) : DoneS π B b N c0 cs x env1 H1 m e a1 ({ c0 with mode := u } :: cs) w1 :=
  let ⟨σ1, hx, hA⟩ := h1
  ⟨σ1, u, hx, hm.mono hA.ext.sg, rfl, h.back1 hA⟩

theorem isRec_some {o : Oper} (h : isRecO o = true) : ∃ as ts, o.op = .call { callee := .builtin .recover, args := as, argTypes := ts } := by
  unfold isRecO at h
  split at h
  · rename_i c hc
    obtain ⟨callee, as, ts⟩ := c
    dsimp only at h
    split at h
    · exact ⟨as, ts, hc⟩
    · simp at h
  · simp at h

theorem opsS_ok (hπ : ∀ i, (π i).oneCell' = true) {cb : Cb} (hcb : CbOk π B P cb) {ops : Array Oper} {b : Base} {N : Nat} {c0 : Frame} {cs : List Frame} {x : Ex} {env' : Env} {H' : Heap} {m' : Md} : ∀ (l : List Oper) (k : Nat), (∀ j, l[j]? = ops[k + j]?) →
    ∀ (σ : Sg) (env : Env) (H : Heap) (m : Md) (u : FrameMode) (a : Act) (w : World), opsOk N l = true → MdR π σ m u → At π B b N σ env H a w → opsS P cb ops.toList l env H m = .ok x env' H' m' →
    wpOpsS P ops (DoneS π B b N c0 cs x env' H' m') (List.range' k l.length) a ({ c0 with mode := u } :: cs) w := by
  intro l
  induction l with
  | nil =>
    intro k _ σ env H m u a w _ hm hA h
    obtain ⟨rfl, rfl, rfl, rfl⟩ := RS.ok.inj (show RS.ok .normal env H m = .ok x env' H' m' from h)
    exact ⟨σ, u, trivial, hm, rfl, hA⟩
  | cons o l ih =>
    intro k hk σ env H m u a w hok hm hA h
    have h0 : ops[k]? = some o := by simpa using (hk 0).symm
    have hk' : ∀ j, l[j]? = ops[k + 1 + j]? := fun j => by have := hk (j + 1); simpa [Nat.add_assoc, Nat.add_comm 1 j] using this
    obtain ⟨hdst, hok'⟩ := opsOk_cons hok
    have hok1 : opsOk N [o] = true := by show band _ true = true; rw [hdst]; rfl
    rw [List.length_cons, List.range'_succ]
    unfold wpOpsS
    rw [h0]
    dsimp only
    have h : (Bool.rec (seqS (opsS P cb ops.toList l) (withM m (opsRun P cb ops.toList [o] env H))) (match o.guard with
      | none => opsS P cb ops.toList l ((putC o).run env (recV m)) H (recM m)
      | some _ => .no [74]) (isRecO o) : RS) = .ok x env' H' m' := h
    cases hr : isRecO o with
    | true =>
      rw [hr] at h
      obtain ⟨as, ts, hop⟩ := isRec_some hr
      have h : (match o.guard with
        | none => opsS P cb ops.toList l ((putC o).run env (recV m)) H (recM m)
        | some _ => .no [74] : RS) = .ok x env' H' m' := h
      split at h
      · rename_i hg
        rw [if_pos (by simp [Region.wanted, hg])]
        have hex : (execOp a.eval o).run P w = .ok .recover w := by simp [execOp, hop, resolve, invoke, builtin]
        rw [hex]
        dsimp only
        have go : ∀ (y : Value) (u' : FrameMode), VR π σ (recV m) y → MdR π σ (recM m) u' → wpOpsS P ops (DoneS π B b N c0 cs x env' H' m') (List.range' (k + 1) l.length) (a.put o.dst y) ({ c0 with mode := u' } :: cs) w := by
          intro y u' hy hu
          obtain ⟨e1, e2, e3⟩ := put_ok (o := o) hA.env hy hA.tm hdst
          exact ih (k + 1) hk' σ _ H _ u' _ w hok' hu ⟨e1, hA.sr, hA.ext, hA.nx, e2, e3.trans hA.df⟩ h
        cases hm with
        | ret => exact go .nilIface .returning .niliface .ret
        | pan v y hv => exact go y _ hv (.over v y hv)
        | over v y hv => exact go .nilIface _ .niliface (.over v y hv)
      · simp at h
    | false =>
      rw [hr] at h
      have h : seqS (opsS P cb ops.toList l) (withM m (opsRun P cb ops.toList [o] env H)) = .ok x env' H' m' := h
      cases hq : opsRun P cb ops.toList [o] env H with
      | no q => rw [hq] at h; exact absurd (show RS.no q = _ from h) (by simp)
      | ok x1 env1 H1 =>
        rw [hq] at h
        have h1 := one_op hπ hcb (ops := ops) hok1 hA.here hq
        have key : ∀ e a1 w1, Done π B ⟨σ, w, H, b.d⟩ N x1 env1 H1 e a1 w1 → (e = .normal → wpOpsS P ops (DoneS π B b N c0 cs x env' H' m') (List.range' (k + 1) l.length) a1 ({ c0 with mode := u } :: cs) w1) ∧
            (e ≠ .normal → DoneS π B b N c0 cs x env' H' m' e a1 ({ c0 with mode := u } :: cs) w1) := by
          intro e a1 w1 hD
          obtain ⟨σ1, g1, g3⟩ := hD
          have g2 := hm.mono g3.ext.sg
          have g4 := hA.back1 g3
          refine ⟨fun he => ?_, fun he => ?_⟩
          · subst he
            cases x1 <;> first | exact g1.elim | skip
            exact ih (k + 1) hk' σ1 env1 H1 m u a1 w1 hok' g2 g4 h
          · cases x1 with
            | normal => cases e <;> first | exact g1.elim | exact absurd rfl he
            | _ =>
              obtain ⟨rfl, rfl, rfl, rfl⟩ := RS.ok.inj (show RS.ok _ env1 H1 m = .ok x env' H' m' from h)
              exact ⟨σ1, u, g1, g2, rfl, g4⟩
        split
        · rename_i hw
          rw [if_pos hw] at h1
          have h2 : o.wp P a w (fun a1 w1 => wpOpsS P ops (DoneS π B b N c0 cs x env' H' m') (List.range' (k + 1) l.length) a1 ({ c0 with mode := u } :: cs) w1) (fun e a1 w1 => DoneS π B b N c0 cs x env' H' m' e a1 ({ c0 with mode := u } :: cs) w1) :=
            Oper.wp_mono2 (fun a1 w1 h => (key _ a1 w1 h).1 rfl) (fun e a1 w1 he h => (key e a1 w1 h).2 he) h1
          unfold Oper.wp at h2
          split
          · rename_i w1 hex
            rw [hex] at h2
            exact h2.elim
          · exact h2
        · rename_i hw
          rw [if_neg hw] at h1
          exact (key _ _ _ h1).1 rfl

theorem execS_ok (hπ : ∀ i, (π i).oneCell' = true) {cb : Cb} (hcb : CbOk π B P cb) {n : Nat} {ih : Ih} (hi : ExecOk π B P n ih) {b : Base} {N : Nat} {c0 : Frame} {cs : List Frame} : ∀ (c : Code) {x : Ex} {env' : Env} {H' : Heap} {m' : Md} (σ : Sg) (env : Env) (H : Heap) (m : Md) (u : FrameMode) (a : Act) (w : World),
    codeOk N c = true → MdR π σ m u → At π B b N σ env H a w → execS P cb ih c env H m = .ok x env' H' m' → c.wpS P (DoneS π B b N c0 cs x env' H' m') a ({ c0 with mode := u } :: cs) w := by
  intro c
  have plain : ∀ (c : Code) {x : Ex} {env' : Env} {H' : Heap} {m' : Md} (σ : Sg) (env : Env) (H : Heap) (m : Md) (u : FrameMode) (a : Act) (w : World), codeOk N c = true → MdR π σ m u → At π B b N σ env H a w →
      withM m (ih c env H) = .ok x env' H' m' → c.wpS P (DoneS π B b N c0 cs x env' H' m') a ({ c0 with mode := u } :: cs) w := by
    intro c x env' H' m' σ env H m u a w hok hm hA h
    cases hr : ih c env H with
    | no q => rw [hr] at h; exact absurd (show RS.no q = _ from h) (by simp)
    | ok x1 env1 H1 =>
      rw [hr] at h
      obtain ⟨rfl, rfl, rfl, rfl⟩ := RS.ok.inj (show RS.ok x1 env1 H1 m = .ok x env' H' m' from h)
      exact wpS_of_wp (Code.wp_mono (fun e a1 w1 hD => DoneS.of hA hm hD) (hi c env H x1 env1 H1 hr _ N σ a w hok hA.here).1)
  induction c with
  | skip =>
    intro x env' H' m' σ env H m u a w _ hm hA h
    obtain ⟨rfl, rfl, rfl, rfl⟩ := RS.ok.inj (show RS.ok .normal env H m = .ok x env' H' m' from h)
    exact wpS_of_wp (wp_skip ⟨σ, u, trivial, hm, rfl, hA⟩)
  | region id ops draw =>
    intro x env' H' m' σ env H m u a w hok hm hA h
    have h : (Bool.rec (withM m (ih (.region id ops draw) env H)) (Bool.rec (opsS P cb ops.toList ops.toList env H m) (.no [75]) draw) (anyO isRecO ops.toList) : RS) = .ok x env' H' m' := h
    cases hb : anyO isRecO ops.toList with
    | false => rw [hb] at h; exact plain _ σ env H m u a w hok hm hA h
    | true =>
      rw [hb] at h
      cases draw with
      | true => exact absurd (show RS.no [75] = _ from h) (by simp)
      | false =>
        refine wpS_region ?_
        rw [List.range_eq_range', ← Array.length_toList]
        exact opsS_ok hπ hcb ops.toList 0 (by simp) σ env H m u a w hok hm hA h
  | seq c1 c2 ih1 ih2 =>
    intro x env' H' m' σ env H m u a w hok hm hA h
    have h : (Bool.rec (withM m (ih (.seq c1 c2) env H)) (seqS (execS P cb ih c2) (execS P cb ih c1 env H m)) (hasC isRecO (.seq c1 c2)) : RS) = .ok x env' H' m' := h
    cases hb : hasC isRecO (.seq c1 c2) with
    | false => rw [hb] at h; exact plain _ σ env H m u a w hok hm hA h
    | true =>
      rw [hb] at h
      have h : seqS (execS P cb ih c2) (execS P cb ih c1 env H m) = .ok x env' H' m' := h
      obtain ⟨k1, k2⟩ := band_true (show band (codeOk N c1) (codeOk N c2) = true from hok)
      cases hr : execS P cb ih c1 env H m with
      | no q => rw [hr] at h; exact absurd (show RS.no q = _ from h) (by simp)
      | ok x1 env1 H1 m1 =>
        rw [hr] at h
        refine wpS_seq (wpS_mono (fun e a1 cs1 w1 hD => ?_) (ih1 σ env H m u a w k1 hm hA hr))
        obtain ⟨σ1, u1, g1, g2, rfl, g3⟩ := hD
        cases x1 with
        | normal =>
          cases e <;> first | exact g1.elim | skip
          exact ih2 σ1 env1 H1 m1 u1 a1 w1 k2 g2 g3 h
        | exit i =>
          cases e <;> first | exact g1.elim | skip
          obtain ⟨rfl, rfl, rfl, rfl⟩ := RS.ok.inj (show RS.ok _ env1 H1 m1 = .ok x env' H' m' from h)
          exact ⟨σ1, u1, g1, g2, rfl, g3⟩
        | goto i =>
          cases e <;> first | exact g1.elim | skip
          obtain ⟨rfl, rfl, rfl, rfl⟩ := RS.ok.inj (show RS.ok _ env1 H1 m1 = .ok x env' H' m' from h)
          exact ⟨σ1, u1, g1, g2, rfl, g3⟩
        | ret =>
          cases e <;> first | exact g1.elim | skip
          obtain ⟨rfl, rfl, rfl, rfl⟩ := RS.ok.inj (show RS.ok _ env1 H1 m1 = .ok x env' H' m' from h)
          exact ⟨σ1, u1, g1, g2, rfl, g3⟩
        | panic v =>
          cases e <;> first | exact g1.elim | skip
          obtain ⟨rfl, rfl, rfl, rfl⟩ := RS.ok.inj (show RS.ok _ env1 H1 m1 = .ok x env' H' m' from h)
          exact ⟨σ1, u1, g1, g2, rfl, g3⟩
  | cond q c1 c2 ih1 ih2 =>
    intro x env' H' m' σ env H m u a w hok hm hA h
    have h : (Bool.rec (withM m (ih (.cond q c1 c2) env H)) (condS (execS P cb ih c1 env H m) (execS P cb ih c2 env H m) ((gop q).run env)) (hasC isRecO (.cond q c1 c2)) : RS) = .ok x env' H' m' := h
    cases hb : hasC isRecO (.cond q c1 c2) with
    | false => rw [hb] at h; exact plain _ σ env H m u a w hok hm hA h
    | true =>
      rw [hb] at h
      obtain ⟨k1, k2⟩ := band_true (show band (codeOk N c1) (codeOk N c2) = true from hok)
      have h : condS (execS P cb ih c1 env H m) (execS P cb ih c2 env H m) ((gop q).run env) = .ok x env' H' m' := h
      unfold condS at h
      cases hg : (gop q).run env with
      | none => rw [hg] at h; exact absurd (show RS.no [8] = _ from h) (by simp)
      | some v =>
        rw [hg] at h
        have h : (Option.rec (.no [8]) (fun c => Bool.rec (execS P cb ih c2 env H m) (execS P cb ih c1 env H m) c) (boolOf v) : RS) = .ok x env' H' m' := h
        cases hbv : boolOf v with
        | none => rw [hbv] at h; exact absurd (show RS.no [8] = _ from h) (by simp)
        | some t =>
          rw [hbv] at h
          have hv : v = .bool t := by
            unfold boolOf at hbv
            split at hbv
            · obtain rfl := Option.some.inj hbv; rfl
            · simp at hbv
          subst hv
          have hc := VR.bool_inv (gop_VR hA.env hg)
          refine wpS_cond hc ?_
          cases t with
          | true => exact ih1 σ env H m u a w k1 hm hA h
          | false => exact ih2 σ env H m u a w k2 hm hA h
  | block i c1 _ => intro x env' H' m' σ env H m u a w hok hm hA h; exact plain _ σ env H m u a w hok hm hA h
  | loop c1 _ => intro x env' H' m' σ env H m u a w hok hm hA h; exact plain _ σ env H m u a w hok hm hA h
  | exit i => intro x env' H' m' σ env H m u a w hok hm hA h; exact plain _ σ env H m u a w hok hm hA h
  | ret => intro x env' H' m' σ env H m u a w hok hm hA h; exact plain _ σ env H m u a w hok hm hA h
  | rangeFunc f ps c1 c2 _ _ => intro x env' H' m' σ env H m u a w _ _ _ h; exact absurd (show RS.no [73] = _ from h) (by simp)
  | scope c1 _ => intro x env' H' m' σ env H m u a w _ _ _ h; exact absurd (show RS.no [73] = _ from h) (by simp)
  | label l => intro x env' H' m' σ env H m u a w _ _ _ h; exact absurd (show RS.no [73] = _ from h) (by simp)
  | goto l => intro x env' H' m' σ env H m u a w _ _ _ h; exact absurd (show RS.no [73] = _ from h) (by simp)
  | refuse s => intro x env' H' m' σ env H m u a w _ _ _ h; exact absurd (show RS.no [73] = _ from h) (by simp)

/-- a call that was put off is run -/
def OffR (π : Nat → Value) (B : Bd) (b : Base) : DR → Ending → FrameMode → World → Prop
  | .ok m' H', e, u', w' => ∃ σ, SR π B σ H' w' ∧ Ext b.σ b.h.know b.w σ H'.know w' ∧ Nx b.σ b.h σ H' ∧
      ((∃ v, e = .returned v) ∧ MdR π σ m' (settle u') ∨ ∃ v x, m' = .pan v ∧ VR π σ v x ∧ u' = .returning ∧ e = .panicked [{ v := x, recovered := false }])
  | .no _, _, _, _ => True

def DR.fine : DR → Prop
  | .no _ => False
  | _ => True

theorem runOff_ok (hπ : ∀ i, (π i).oneCell' = true) {cb : Cb} (hcb : CbOk π B P cb) {n : Nat} {ih : Ih} (hi : ExecOk π B P n ih) (hn : NamesOk P) {σ : Sg} {H : Heap} {w : World} {dv : AV} {d : Deferred} {m : Md} {u : FrameMode} {r : DR}
    (hS : SR π B σ H w) (hd : DefV π σ dv d) (hm : MdR π σ m u) (h : runOff P cb ih dv m H = r) (hf : r.fine) :
    ∃ fv cap f args, d.target = .fn fv cap ∧ (invoke d.target d.args).run P w = .ok (.enter f args) w ∧ CallsD P f args u w (OffR π B ⟨σ, w, H, []⟩ r) := by
  obtain ⟨f, l, k, xs, ys, rfl, rfl, hl, hk⟩ := hd
  have h : (match P.funcs[f]? with
    | some fn => (match fn.body, (Option.rec (motive := fun _ => Bool) false (fun c => codeOk fn.ntmps c) fn.body : Bool) with
      | some body, true => doneS (resC P fn.results.toList).run (execS P cb ih body (bindArgs (app l k) 0 Env.emp) H m)
      | _, _ => .no [79])
    | none => .no [79] : DR) = r := h
  split at h
  · rename_i fn hfn
    split at h
    · rename_i body hb hok
      refine ⟨.func f, ys, f, xs ++ ys, rfl, ?_, ?_⟩
      · show (callFunc f (xs ++ ys)).run P w = _
        exact enter_run hn hfn hb _ w
      refine callsD_of_wpS hfn hb fun c0 cs hc0 => ?_
      have hok' : codeOk fn.ntmps body = true := by rw [hb] at hok; exact hok
      have hla : VRL π σ (app l k) (xs ++ ys).toList := by rw [app_eq, Array.toList_append]; exact VRL.append hl hk
      have hA : At π B ⟨σ, w, H, []⟩ fn.ntmps σ (bindArgs (app l k) 0 Env.emp) H { tmps := (xs ++ ys) ++ Array.replicate (fn.ntmps - (xs ++ ys).size) undef, defers := [] } w := by
        refine ⟨bind_ok _ 0 _ σ _ (xs ++ ys).toList hla (fun j hj => ?_) (fun t u hu => ?_), hS, Ext.refl _ _ _, Nx.refl _ _, by simp only [Array.size_append, Array.size_replicate]; omega, rfl⟩
        · rw [Array.length_toList] at hj
          rw [Nat.zero_add, Array.getElem?_append_left hj, Array.getElem?_toList]
        · have : (getc 3 t).run (empT 3 : PT AV 3) = none := get_emp 3 t
          rw [show Env.get Env.emp t = none from this] at hu; simp at hu
      have hc : c0 = { c0 with mode := u } := by subst hc0; rfl
      rw [hc]
      cases hr : execS P cb ih body (bindArgs (app l k) 0 Env.emp) H m with
      | no q => rw [hr] at h; subst h; exact hf.elim
      | ok x env' H' m' =>
        rw [hr] at h
        refine wpS_mono (fun e a cs' w' hD => ?_) (execS_ok hπ hcb hi (c0 := c0) (cs := cs) body σ _ H m u _ w hok' hm hA hr)
        obtain ⟨σ1, u1, g1, g2, rfl, g3⟩ := hD
        have ends : (Option.rec (.no [76]) (fun _ => .ok (settleA m') H') ((resC P fn.results.toList).run env' H') : DR) = r →
            a.defers = [] ∧ ∃ u', ({ c0 with mode := u1 } : Frame) :: cs = { ({ c0 with mode := u } : Frame) with mode := u' } :: cs ∧ ∃ v, (results fn a.tmps).run P w' = .ok v w' ∧ OffR π B ⟨σ, w, H, []⟩ r (.returned v) u' w' := by
          intro h
          cases hm : (resC P fn.results.toList).run env' H' with
          | none => rw [hm] at h; subst h; exact hf.elim
          | some q =>
            rw [hm] at h
            obtain rfl := (show DR.ok (settleA m') H' = r from h)
            obtain ⟨y, h1, _⟩ := results_ok g3.env g3.sr hm
            refine ⟨g3.df, u1, rfl, y, h1, σ1, g3.sr, g3.ext, g3.nx, .inl ⟨⟨y, rfl⟩, ?_⟩⟩
            cases g2 with
            | ret => exact .ret
            | pan v x hv => exact .pan v x hv
            | over v x hv => exact .ret
        cases x with
        | normal =>
          cases e <;> first | exact g1.elim | skip
          exact ends h
        | ret =>
          cases e <;> first | exact g1.elim | skip
          exact ends h
        | panic v =>
          cases e <;> first | exact g1.elim | skip
          obtain ⟨y, rfl, hy⟩ := g1
          cases g2 with
          | ret =>
            obtain rfl := (show DR.ok (.pan v) H' = r from h)
            exact ⟨g3.df, .returning, rfl, σ1, g3.sr, g3.ext, g3.nx, .inr ⟨v, y, rfl, hy, rfl, rfl⟩⟩
          | pan _ _ _ => obtain rfl := (show DR.no [77] = r from h); exact hf.elim
          | over _ _ _ => obtain rfl := (show DR.no [77] = r from h); exact hf.elim
        | exit i => obtain rfl := (show DR.no [77] = r from h); exact hf.elim
        | goto i => obtain rfl := (show DR.no [77] = r from h); exact hf.elim
    · obtain rfl := (show DR.no [79] = r from h); exact hf.elim
  · obtain rfl := (show DR.no [79] = r from h); exact hf.elim

theorem outL_ok (hπ : ∀ i, (π i).oneCell' = true) {cb : Cb} (hcb : CbOk π B P cb) {n : Nat} {ih : Ih} (hi : ExecOk π B P n ih) (hn : NamesOk P) {fn : Func} {b : Base} {env : Env} {a : Act} {cr : CR} (hf : cr.fine) : ∀ (ds : List AV) (D : List Deferred) (σ : Sg) (m : Md) (u : FrameMode) (H : Heap) (w : World),
    DefsR π σ ds D → MdR π σ m u → EnvR π σ env a → SR π B σ H w → Ext b.σ b.h.know b.w σ H.know w → Nx b.σ b.h σ H →
    outL (runOff P cb ih) (finM (resC P fn.results.toList).run env) ds m H = cr → Leaves P fn a.tmps (CallR π B b cr) D u w := by
  intro ds
  induction ds with
  | nil =>
    intro D σ m u H w hd hm he hS hE hN h
    cases hd
    have h : finM (resC P fn.results.toList).run env m H = cr := h
    cases hm with
    | ret =>
      have h : leaveV (resC P fn.results.toList).run env H = cr := h
      unfold leaveV at h
      cases hr : (resC P fn.results.toList).run env H with
      | none => rw [hr] at h; subst h; exact hf.elim
      | some q =>
        rw [hr] at h; subst h
        obtain ⟨y, h1, h2⟩ := results_ok he hS hr
        exact ⟨y, h1, σ, y, rfl, h2, hS, hE, hN⟩
    | pan v x hv =>
      obtain rfl := (show CR.pan v H = cr from h)
      exact ⟨σ, x, rfl, hv, hS, hE, hN⟩
    | over v x hv => obtain rfl := (show CR.no [80] = cr from h); exact hf.elim
  | cons dv ds ihd =>
    intro D σ m u H w hd hm he hS hE hN h
    cases hd with
    | cons h1 h2 =>
      rename_i d D
      have h : (DR.rec (fun m' H' => outL (runOff P cb ih) (finM (resC P fn.results.toList).run env) ds m' H') (fun l => .no l) (runOff P cb ih dv m H) : CR) = cr := h
      cases hr : runOff P cb ih dv m H with
      | no q => rw [hr] at h; obtain rfl := (show CR.no q = cr from h); exact hf.elim
      | ok m' H' =>
        rw [hr] at h
        obtain ⟨fv, cap, f, args, g1, g2, g3⟩ := runOff_ok hπ hcb hi hn hS h1 hm hr trivial
        refine ⟨fun e => (by subst e; cases hm), fv, cap, f, args, g1, g2, g3.mono fun e u' w' hR => ?_⟩
        obtain ⟨σ1, k1, k2, k3, k4⟩ := hR
        rcases k4 with ⟨⟨v, rfl⟩, k5⟩ | ⟨v, x, rfl, k5, rfl, rfl⟩
        · exact ihd D σ1 m' (settle u') H' w' (h2.mono k2.sg) k5 (he.mono k2.sg) k1 (hE.trans k2) (hN.trans k3) h
        · exact ihd D σ1 (.pan v) (raised .returning _) H' w' (h2.mono k2.sg) (.pan v x k5) (he.mono k2.sg) k1 (hE.trans k2) (hN.trans k3) h

theorem body_ok (hπ : ∀ i, (π i).oneCell' = true) {K : Known} (hK : KnownOk π B P K) (hn : NamesOk P) {n : Nat} {ih : Ih} (hi : ExecOk π B P n ih) {f : FuncId} {fn : Func} {body : Code} (hf : P.funcs[f]? = some fn) (hb : fn.body = some body)
    (hok : (Option.rec (motive := fun _ => Bool) false (fun c => codeOk fn.ntmps c) fn.body : Bool) = true) {σ : Sg} {H : Heap} {w : World} {args : List AV} {xs : Array Value} (hS : SR π B σ H w) (hl : VRL π σ args xs.toList) {cr : CR} (hfine : cr.fine)
    (h : (bodyRun P K fn body).run ih args H = cr) : Calls P f xs w (CallR π B ⟨σ, w, H, []⟩ cr) := by
  have hok' : codeOk fn.ntmps body = true := by rw [hb] at hok; exact hok
  have hA : At π B ⟨σ, w, H, []⟩ fn.ntmps σ (bindArgs args 0 Env.emp) H { tmps := xs ++ Array.replicate (fn.ntmps - xs.size) undef, defers := [] } w := by
    refine ⟨bind_ok args 0 _ σ _ xs.toList hl (fun j hj => ?_) (fun t u hu => ?_), hS, Ext.refl _ _ _, Nx.refl _ _, by simp; omega, rfl⟩
    · rw [Array.length_toList] at hj
      rw [Nat.zero_add, Array.getElem?_append_left hj]; simp
    · have : (getc 3 t).run (empT 3 : PT AV 3) = none := get_emp 3 t
      rw [show Env.get Env.emp t = none from this] at hu; simp at hu
  unfold bodyRun at h
  split at h
  · have h : leave (resC P fn.results.toList).run (ih body (bindArgs args 0 Env.emp) H) = cr := h
    refine calls_of_wp hf hb ?_
    cases hr : ih body (bindArgs args 0 Env.emp) H with
    | no l => rw [hr] at h; subst h; exact hfine.elim
    | ok x env' H' =>
      rw [hr] at h
      have hw := (hi body _ _ x env' H' hr ⟨σ, w, H, []⟩ fn.ntmps σ _ w hok' hA).1
      refine Code.wp_mono (fun e a w' hd => ?_) hw
      obtain ⟨σ', hx, hA'⟩ := hd
      have lv : leaveV (resC P fn.results.toList).run env' H' = cr → ∃ v, (results fn a.tmps).run P w' = .ok v w' ∧ CallR π B ⟨σ, w, H, []⟩ cr (.returned v) w' := by
        intro h
        unfold leaveV at h
        cases hm : (resC P fn.results.toList).run env' H' with
        | none => rw [hm] at h; subst h; exact hfine.elim
        | some m =>
          rw [hm] at h; subst h
          obtain ⟨y, h1, h2⟩ := results_ok hA'.env hA'.sr hm
          exact ⟨y, h1, σ', y, rfl, h2, hA'.sr, hA'.ext, hA'.nx⟩
      cases x with
      | normal =>
        cases e <;> first | exact hx.elim | skip
        exact ⟨hA'.df, lv h⟩
      | ret =>
        cases e <;> first | exact hx.elim | skip
        exact ⟨hA'.df, lv h⟩
      | panic v =>
        cases e <;> first | exact hx.elim | skip
        obtain ⟨y, rfl, hy⟩ := hx
        obtain rfl := (show CR.pan v H' = cr from h)
        exact ⟨hA'.df, σ', y, rfl, hy, hA'.sr, hA'.ext, hA'.nx⟩
      | exit i => obtain rfl := (show CR.no [4] = cr from h); exact hfine.elim
      | goto i => obtain rfl := (show CR.no [4] = cr from h); exact hfine.elim
  · have hcb : CbOk π B P (cb0 P K ih) := entry0_ok hK hn hi
    have h : leaveX (runOff P (cb0 P K ih) ih) (resC P fn.results.toList).run (execX P (cb0 P K ih) ih body (bindArgs args 0 Env.emp) H []) = cr := h
    refine calls_of_wp_defers hf hb ?_
    cases hr : execX P (cb0 P K ih) ih body (bindArgs args 0 Env.emp) H [] with
    | no l => rw [hr] at h; obtain rfl := (show CR.no l = cr from h); exact hfine.elim
    | ok x env' H' ds' =>
      rw [hr] at h
      refine Code.wp_mono (fun e a w' hd => ?_) (execX_ok hπ hcb hi (b := ⟨σ, w, H, []⟩) body σ _ H [] [] _ w hok' .nil hA hr)
      obtain ⟨σ1, D, g1, g2, g3⟩ := hd
      have out : ∀ m u, MdR π σ1 m u → outL (runOff P (cb0 P K ih) ih) (finM (resC P fn.results.toList).run env') ds' m H' = cr → Leaves P fn a.tmps (CallR π B ⟨σ, w, H, []⟩ cr) a.defers u w' := fun m u hm h => by
        have hdf : a.defers = D := g3.df
        rw [hdf]
        exact outL_ok hπ hcb hi hn hfine ds' D σ1 m u H' w' g2 hm g3.env g3.sr g3.ext g3.nx h
      cases x with
      | normal =>
        cases e <;> first | exact g1.elim | skip
        exact out .ret _ .ret h
      | ret =>
        cases e <;> first | exact g1.elim | skip
        exact out .ret _ .ret h
      | panic v =>
        cases e <;> first | exact g1.elim | skip
        obtain ⟨y, rfl, hy⟩ := g1
        exact out (.pan v) _ (.pan v y hy) h
      | exit i => obtain rfl := (show CR.no [4] = cr from h); exact hfine.elim
      | goto i => obtain rfl := (show CR.no [4] = cr from h); exact hfine.elim

end
end Go.Proofs.Ytlnjikneepgpaaa.Fast
