/- For a region that draws its order: the trace of the run in its one order. -/
import Derived.Test.YtlnjikneepgpaaaEvDraw1
namespace Go.Proofs.Ytlnjikneepgpaaa.Fast
section
variable {π : Nat → Value} {B : Bd} {P : Program}

structure TE where
  x : It
  on : Bool
  v : AV
  H2 : Heap
  ob : Obj

structure St where
  acts : List It
  env : Env
  H : Heap
  hs : List Heap

noncomputable def nextS (e : TE) (s : St) : St :=
  ⟨Bool.rec s.acts (app s.acts [e.x]) (isAct e.x), (putC e.x.o).run s.env e.v, e.H2, Bool.rec s.hs (e.H2 :: s.hs) (isAct e.x)⟩

structure TEok (P : Program) (cb : Cb) (all : List Oper) (n0 : Nat) (e : TE) (s : St) : Prop where
  want : (wantC all e.x.o).run s.env = some e.on
  big : s.H.next ≤ BIG
  big2 : e.H2.next ≤ BIG
  off : e.on = false → e.v = .tuple [] ∧ e.H2 = s.H
  on0 : e.on = true → e.x.k = 0 → e.H2 = s.H ∧ ∃ H1, (aop P e.x.o).run s.env ⟨.e, BIG⟩ = .val e.v H1 ∧ H1.next = BIG
  on1 : e.on = true → e.x.k = 1 → e.H2 = s.H ∧ ∃ Hk tl H1, s.hs = Hk :: tl ∧ (aop P e.x.o).run s.env Hk.big = .val e.v H1 ∧ H1.next = BIG ∧ sameIn (aop P e.x.o).run s.env e.v (slack e.x.m s.acts) tl = true
  on2 : e.on = true → e.x.k = 2 → ∃ f, (freC P e.x.o).run s.env = some f ∧ e.v = f.val (n0 + e.x.i) ∧ e.ob = f.obj ∧ e.H2 = s.H.put (n0 + e.x.i) f.obj
  on3 : e.on = true → e.x.k = 3 → (aop P e.x.o).run s.env s.H = .val e.v e.H2 ∨ ∃ f args, (aop P e.x.o).run s.env s.H = .call f args ∧ cb f args s.H = .ret e.v e.H2

def Chn (P : Program) (cb : Cb) (all : List Oper) (n0 : Nat) : List TE → St → St → Prop
  | [], s, s' => s = s'
  | e :: R, s, s' => TEok P cb all n0 e s ∧ Chn P cb all n0 R (nextS e s) s'

theorem Chn.app {cb : Cb} {all : List Oper} {n0 : Nat} : ∀ {R1 R2 : List TE} {s s' : St}, Chn P cb all n0 (R1 ++ R2) s s' → ∃ s1, Chn P cb all n0 R1 s s1 ∧ Chn P cb all n0 R2 s1 s'
  | [], _, s, _, h => ⟨s, rfl, h⟩
  | _ :: _, _, _, _, h => let ⟨h1, h2⟩ := h; let ⟨s1, h3, h4⟩ := Chn.app h2; ⟨s1, ⟨h1, h3⟩, h4⟩

theorem Chn.join {cb : Cb} {all : List Oper} {n0 : Nat} : ∀ {R1 R2 : List TE} {s s1 s' : St}, Chn P cb all n0 R1 s s1 → Chn P cb all n0 R2 s1 s' → Chn P cb all n0 (R1 ++ R2) s s'
  | [], _, _, _, _, h, h2 => by obtain rfl := h; exact h2
  | _ :: _, _, _, _, _, h, h2 => ⟨h.1, Chn.join h.2 h2⟩
theorem Chn.snoc {cb : Cb} {all : List Oper} {n0 : Nat} {R1 : List TE} {e : TE} {s s1 : St} (h : Chn P cb all n0 R1 s s1) (ht : TEok P cb all n0 e s1) : Chn P cb all n0 (R1 ++ [e]) s (nextS e s1) :=
  Chn.join h ⟨ht, rfl⟩
theorem Chn.det {cb : Cb} {all : List Oper} {n0 : Nat} : ∀ {R : List TE} {s a b : St}, Chn P cb all n0 R s a → Chn P cb all n0 R s b → a = b
  | [], _, _, _, h, h2 => h.symm.trans h2
  | _ :: _, _, _, _, h, h2 => Chn.det h.2 h2.2

theorem isAct_iff {x : It} : isAct x = true ↔ x.k = 3 := ⟨fun h => Nat.eq_of_beq_eq_true h, fun h => by unfold isAct; rw [h]; rfl⟩

theorem kindO_le (o : Oper) : kindO P o ≤ 3 := by
  unfold kindO
  split <;> first | decide | skip
  unfold kindC
  split <;> first | decide | skip
  unfold kindB
  split <;> first | decide | skip
  split <;> first | decide | skip
  split <;> first | decide | skip
  split <;> decide

theorem put_next (H : Heap) (b : Nat) (o : Obj) : (H.put b o).next = H.next := rfl

theorem draw_trK {fin : DK} {cb : Cb} {all : List Oper} {n0 : Nat} {x : Ex} {env' : Env} {H' : Heap} : ∀ (l : List It) (s : St), (∀ x ∈ l, x.k ≤ 3) → s.H.next ≤ BIG →
    (drawLK P all fin l s.acts).run cb n0 s.env s.H s.hs = .ok x env' H' → ∃ es s', es.map (·.x) = l ∧ Chn P cb all n0 es s s' ∧ s'.H.next ≤ BIG ∧ fin cb n0 s'.env s'.H s'.hs = .ok x env' H'
  | [], s, _, hb, h => by
    exact ⟨[], s, rfl, rfl, hb, h⟩
  | y :: l, s, hk, hb, h => by
    have hl : ∀ x ∈ l, x.k ≤ 3 := fun x hx => hk x (List.mem_cons_of_mem _ hx)
    have step : ∀ e : TE, e.x = y → TEok P cb all n0 e s → e.H2.next ≤ BIG → (drawLK P all fin l (nextS e s).acts).run cb n0 (nextS e s).env (nextS e s).H (nextS e s).hs = .ok x env' H' →
        ∃ es s', es.map (·.x) = y :: l ∧ Chn P cb all n0 es s s' ∧ s'.H.next ≤ BIG ∧ fin cb n0 s'.env s'.H s'.hs = .ok x env' H' := fun e he ht hn hr => by
      obtain ⟨es, s', h2, h3, h4, h5⟩ := draw_trK l (nextS e s) hl hn hr
      exact ⟨e :: es, s', by simp [he, h2], ⟨ht, h3⟩, h4, h5⟩
    have h : drawG all y (drawLK P all fin l (Bool.rec s.acts (app s.acts [y]) (isAct y))).run (drawOp P y s.acts (drawLK P all fin l (Bool.rec s.acts (app s.acts [y]) (isAct y))).run) cb n0 s.env s.H s.hs = .ok x env' H' := h
    generalize hkk : (drawLK P all fin l (Bool.rec s.acts (app s.acts [y]) (isAct y))).run = k at h
    have here : (wantC all y.o).run s.env = some true → drawOp P y s.acts k cb n0 s.env s.H s.hs = .ok x env' H' →
        ∃ es s', es.map (·.x) = y :: l ∧ Chn P cb all n0 es s s' ∧ s'.H.next ≤ BIG ∧ fin cb n0 s'.env s'.H s'.hs = .ok x env' H' := fun hw h => by
      rcases (show y.k = 0 ∨ y.k = 1 ∨ y.k = 2 ∨ y.k = 3 from by have := hk y List.mem_cons_self; omega) with hy | hy | hy | hy
      · rw [show drawOp P y s.acts k = drawP P y k from by unfold drawOp; rw [hy]; rfl] at h
        have hna : isAct y = false := by unfold isAct; rw [hy]; rfl
        have h : (OR.rec (fun v H1 => Bool.rec (.no [20]) (k cb n0 ((putC y.o).run s.env v) s.H s.hs) (Nat.beq H1.next BIG)) (fun _ _ => .no [20]) (fun _ _ => .no [20]) (.no [20, y.i]) ((aop P y.o).run s.env ⟨.e, BIG⟩) : R) = .ok x env' H' := h
        cases hr : (aop P y.o).run s.env ⟨.e, BIG⟩ with
        | val v H1 =>
          rw [hr] at h
          have h : (Bool.rec (.no [20]) (k cb n0 ((putC y.o).run s.env v) s.H s.hs) (Nat.beq H1.next BIG) : R) = .ok x env' H' := h
          cases hb1 : Nat.beq H1.next BIG with
          | false => rw [hb1] at h; simp at h
          | true =>
            rw [hb1] at h
            have h : k cb n0 ((putC y.o).run s.env v) s.H s.hs = .ok x env' H' := h
            refine step ⟨y, true, v, s.H, .dead⟩ rfl ⟨hw, hb, hb, fun h => by simp at h, fun _ _ => ⟨rfl, H1, hr, Nat.eq_of_beq_eq_true hb1⟩, fun _ h => ?_, fun _ h => ?_, fun _ h => ?_⟩ hb ?_
            · dsimp only at h; rw [hy] at h; simp at h
            · dsimp only at h; rw [hy] at h; simp at h
            · dsimp only at h; rw [hy] at h; simp at h
            · rw [← hkk] at h
              show (drawLK P all fin l (Bool.rec s.acts (app s.acts [y]) (isAct y))).run cb n0 ((putC y.o).run s.env v) s.H (Bool.rec s.hs (s.H :: s.hs) (isAct y)) = _
              rw [hna] at h ⊢
              exact h
        | call f args => rw [hr] at h; simp at h
        | pan v H => rw [hr] at h; simp at h
        | no => rw [hr] at h; simp at h
      · rw [show drawOp P y s.acts k = drawR P y (slack y.m s.acts) k from by unfold drawOp; rw [hy]; rfl] at h
        have hna : isAct y = false := by unfold isAct; rw [hy]; rfl
        have h : (List.rec (motive := fun _ => R) (.no [21]) (fun Hk tl _ => OR.rec (fun v H1 => Bool.rec (.no [21, y.i]) (k cb n0 ((putC y.o).run s.env v) s.H s.hs) (band (Nat.beq H1.next BIG) (sameIn (aop P y.o).run s.env v (slack y.m s.acts) tl)))
            (fun _ _ => .no [22]) (fun _ _ => .no [22]) (.no [22, y.i]) ((aop P y.o).run s.env Hk.big)) s.hs : R) = .ok x env' H' := h
        cases hhs : s.hs with
        | nil => rw [hhs] at h; simp at h
        | cons Hk tl =>
          rw [hhs] at h
          have h : (OR.rec (fun v H1 => Bool.rec (.no [21, y.i]) (k cb n0 ((putC y.o).run s.env v) s.H (Hk :: tl)) (band (Nat.beq H1.next BIG) (sameIn (aop P y.o).run s.env v (slack y.m s.acts) tl)))
            (fun _ _ => .no [22]) (fun _ _ => .no [22]) (.no [22, y.i]) ((aop P y.o).run s.env Hk.big) : R) = .ok x env' H' := h
          cases hr : (aop P y.o).run s.env Hk.big with
          | val v H1 =>
            rw [hr] at h
            have h : (Bool.rec (.no [21, y.i]) (k cb n0 ((putC y.o).run s.env v) s.H (Hk :: tl)) (band (Nat.beq H1.next BIG) (sameIn (aop P y.o).run s.env v (slack y.m s.acts) tl)) : R) = .ok x env' H' := h
            cases hb1 : band (Nat.beq H1.next BIG) (sameIn (aop P y.o).run s.env v (slack y.m s.acts) tl) with
            | false => rw [hb1] at h; simp at h
            | true =>
              rw [hb1] at h
              have h : k cb n0 ((putC y.o).run s.env v) s.H (Hk :: tl) = .ok x env' H' := h
              obtain ⟨g1, g2⟩ := band_true hb1
              refine step ⟨y, true, v, s.H, .dead⟩ rfl ⟨hw, hb, hb, fun h => by simp at h, fun _ h => ?_, fun _ _ => ⟨rfl, Hk, tl, H1, hhs, hr, Nat.eq_of_beq_eq_true g1, g2⟩, fun _ h => ?_, fun _ h => ?_⟩ hb ?_
              · dsimp only at h; rw [hy] at h; simp at h
              · dsimp only at h; rw [hy] at h; simp at h
              · dsimp only at h; rw [hy] at h; simp at h
              · rw [← hkk, ← hhs] at h
                show (drawLK P all fin l (Bool.rec s.acts (app s.acts [y]) (isAct y))).run cb n0 ((putC y.o).run s.env v) s.H (Bool.rec s.hs (s.H :: s.hs) (isAct y)) = _
                rw [hna] at h ⊢
                exact h
          | call f args => rw [hr] at h; simp at h
          | pan v H => rw [hr] at h; simp at h
          | no => rw [hr] at h; simp at h
      · rw [show drawOp P y s.acts k = drawF P y k from by unfold drawOp; rw [hy]; rfl] at h
        have hna : isAct y = false := by unfold isAct; rw [hy]; rfl
        have h : (Option.rec (.no [23, y.i]) (fun f => k cb n0 ((putC y.o).run s.env (f.val (n0 + y.i))) (s.H.put (n0 + y.i) f.obj) s.hs) ((freC P y.o).run s.env) : R) = .ok x env' H' := h
        cases hr : (freC P y.o).run s.env with
        | none => rw [hr] at h; simp at h
        | some f =>
          rw [hr] at h
          have h : k cb n0 ((putC y.o).run s.env (f.val (n0 + y.i))) (s.H.put (n0 + y.i) f.obj) s.hs = .ok x env' H' := h
          refine step ⟨y, true, f.val (n0 + y.i), s.H.put (n0 + y.i) f.obj, f.obj⟩ rfl ⟨hw, hb, hb, fun h => by simp at h, fun _ h => ?_, fun _ h => ?_, fun _ _ => ⟨f, hr, rfl, rfl, rfl⟩, fun _ h => ?_⟩ hb ?_
          · dsimp only at h; rw [hy] at h; simp at h
          · dsimp only at h; rw [hy] at h; simp at h
          · dsimp only at h; rw [hy] at h; simp at h
          · rw [← hkk] at h
            show (drawLK P all fin l (Bool.rec s.acts (app s.acts [y]) (isAct y))).run cb n0 ((putC y.o).run s.env (f.val (n0 + y.i))) (s.H.put (n0 + y.i) f.obj) (Bool.rec s.hs (_ :: s.hs) (isAct y)) = _
            rw [hna] at h ⊢
            exact h
      · rw [show drawOp P y s.acts k = drawA P y k from by unfold drawOp; rw [hy]; rfl] at h
        have hna : isAct y = true := isAct_iff.2 hy
        have fin : ∀ (v : AV) (H2 : Heap), ((aop P y.o).run s.env s.H = .val v H2 ∨ ∃ f args, (aop P y.o).run s.env s.H = .call f args ∧ cb f args s.H = .ret v H2) →
            (Bool.rec (.no [29]) (k cb n0 ((putC y.o).run s.env v) H2 (H2 :: s.hs)) (Nat.ble H2.next BIG) : R) = .ok x env' H' →
            ∃ es s', es.map (·.x) = y :: l ∧ Chn P cb all n0 es s s' ∧ s'.H.next ≤ BIG ∧ fin cb n0 s'.env s'.H s'.hs = .ok x env' H' := fun v H2 hv h => by
          cases hb1 : Nat.ble H2.next BIG with
          | false => rw [hb1] at h; simp at h
          | true =>
            rw [hb1] at h
            have h : k cb n0 ((putC y.o).run s.env v) H2 (H2 :: s.hs) = .ok x env' H' := h
            have hb2 := Nat.le_of_ble_eq_true hb1
            refine step ⟨y, true, v, H2, .dead⟩ rfl ⟨hw, hb, hb2, fun h => by simp at h, fun _ h => ?_, fun _ h => ?_, fun _ h => ?_, fun _ _ => hv⟩ hb2 ?_
            · dsimp only at h; rw [hy] at h; simp at h
            · dsimp only at h; rw [hy] at h; simp at h
            · dsimp only at h; rw [hy] at h; simp at h
            · rw [← hkk] at h
              show (drawLK P all fin l (Bool.rec s.acts (app s.acts [y]) (isAct y))).run cb n0 ((putC y.o).run s.env v) H2 (Bool.rec s.hs (H2 :: s.hs) (isAct y)) = _
              rw [hna] at h ⊢
              exact h
        have h : (OR.rec (fun v H' => Bool.rec (.no [29]) (k cb n0 ((putC y.o).run s.env v) H' (H' :: s.hs)) (Nat.ble H'.next BIG))
            (fun f args => CR.rec (fun v H' => Bool.rec (.no [29]) (k cb n0 ((putC y.o).run s.env v) H' (H' :: s.hs)) (Nat.ble H'.next BIG)) (fun _ _ => .no [25]) (fun w => .no (f :: w)) (cb f args s.H))
            (fun _ _ => .no [26]) (.no [26, y.i]) ((aop P y.o).run s.env s.H) : R) = .ok x env' H' := h
        cases hr : (aop P y.o).run s.env s.H with
        | val v H2 => rw [hr] at h; exact fin v H2 (.inl hr) h
        | call f args =>
          rw [hr] at h
          have h : (CR.rec (fun v H' => Bool.rec (.no [29]) (k cb n0 ((putC y.o).run s.env v) H' (H' :: s.hs)) (Nat.ble H'.next BIG)) (fun _ _ => .no [25]) (fun w => .no (f :: w)) (cb f args s.H) : R) = .ok x env' H' := h
          cases hc : cb f args s.H with
          | ret v H2 => rw [hc] at h; exact fin v H2 (.inr ⟨f, args, hr, hc⟩) h
          | pan v H2 => rw [hc] at h; simp at h
          | no w => rw [hc] at h; simp at h
        | pan v H => rw [hr] at h; simp at h
        | no => rw [hr] at h; simp at h
    cases hg : y.o.guard with
    | none =>
      rw [show drawG all y k (drawOp P y s.acts k) = drawOp P y s.acts k from by unfold drawG; rw [hg]] at h
      exact here (by unfold wantC; rw [hg]) h
    | some g =>
      rw [show drawG all y k (drawOp P y s.acts k) = (fun cb n0 env H hs => Option.rec (.no [27]) (fun b => Bool.rec (k cb n0 ((putC y.o).run env (.tuple [])) H (Bool.rec hs (H :: hs) (isAct y))) (drawOp P y s.acts k cb n0 env H hs) b) ((wantC all y.o).run env)) from by unfold drawG; rw [hg]] at h
      have h : (Option.rec (.no [27]) (fun b => Bool.rec (k cb n0 ((putC y.o).run s.env (.tuple [])) s.H (Bool.rec s.hs (s.H :: s.hs) (isAct y))) (drawOp P y s.acts k cb n0 s.env s.H s.hs) b) ((wantC all y.o).run s.env) : R) = .ok x env' H' := h
      cases hw : (wantC all y.o).run s.env with
      | none => rw [hw] at h; simp at h
      | some c =>
        rw [hw] at h
        cases c with
        | true => exact here hw h
        | false =>
          have h : k cb n0 ((putC y.o).run s.env (.tuple [])) s.H (Bool.rec s.hs (s.H :: s.hs) (isAct y)) = .ok x env' H' := h
          refine step ⟨y, false, .tuple [], s.H, .dead⟩ rfl ⟨hw, hb, hb, fun _ => ⟨rfl, rfl⟩, fun h => by simp at h, fun h => by simp at h, fun h => by simp at h, fun h => by simp at h⟩ hb ?_
          rw [← hkk] at h
          exact h

theorem draw_tr {cb : Cb} {all : List Oper} {n0 : Nat} {x : Ex} {env' : Env} {H' : Heap} (l : List It) (s : St) (hk : ∀ x ∈ l, x.k ≤ 3) (hb : s.H.next ≤ BIG)
    (h : (drawL P all l s.acts).run cb n0 s.env s.H s.hs = .ok x env' H') : x = .normal ∧ ∃ es s', es.map (·.x) = l ∧ Chn P cb all n0 es s s' ∧ s'.env = env' ∧ s'.H = H' ∧ s'.H.next ≤ BIG := by
  obtain ⟨es, s', h1, h2, h3, h4⟩ := draw_trK (fin := finD) l s hk hb h
  obtain ⟨rfl, rfl, rfl⟩ := R.ok.inj (show R.ok .normal s'.env s'.H = R.ok x env' H' from h4)
  exact ⟨rfl, es, s', h1, h2, rfl, rfl, h3⟩

end
end Go.Proofs.Ytlnjikneepgpaaa.Fast
