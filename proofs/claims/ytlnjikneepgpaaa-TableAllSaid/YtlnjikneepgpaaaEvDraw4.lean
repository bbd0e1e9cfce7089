/- For a region that draws its order: one more operation is done. -/
import Derived.Test.YtlnjikneepgpaaaEvDraw3
namespace Go.Proofs.Ytlnjikneepgpaaa.Fast
section
variable {π : Nat → Value} {B : Bd} {P : Program}
variable {cb : Cb} {ops : Array Oper} {b : Base} {N n0 : Nat} {es : List TE} {env0 : Env} {s0 sEnd : St} {L : Array Bool} {a : Act} {w : World} {pre R : List TE} {s : St} {σ : Sg} {envL : Env}

theorem Stat.lt {la ea : Option Nat} (hS : Stat P ops es la ea) {e : TE} (he : e ∈ es) : e.x.i < ops.size := by
  have h := (hS.mem e he).1
  rw [Array.getElem?_toList] at h
  rcases Nat.lt_or_ge e.x.i ops.size with h' | h'
  · exact h'
  · rw [Array.getElem?_eq_none h'] at h; simp at h

theorem Stat.le3 {la ea : Option Nat} (hS : Stat P ops es la ea) {e : TE} (he : e ∈ es) : e.x.k ≤ 3 := by rw [(hS.mem e he).2.2]; exact kindO_le _

theorem Inv.inR (hI : Inv π B P cb ops b N n0 es env0 s0 sEnd L a w pre R s σ envL) {y : TE} (h : y ∈ R) : y ∈ es := by rw [hI.eqn]; exact List.mem_append_right _ h

theorem Inv.xof (hI : Inv π B P cb ops b N n0 es env0 s0 sEnd L a w pre R s σ envL) {la ea : Option Nat} (hS : Stat P ops es la ea) {L' : Array Bool} {T : List TE} (hT : ∀ y ∈ T, y ∈ R) {y : TE} (hy : y ∈ T) (h1 : Ld L' y.x.i = true) (h2 : y.on = true) (h3 : y.x.k = 2) : Xof n0 L' T (n0 + y.x.i) = some y.ob :=
  Xof_of h1 h2 h3 hy fun z hz hzi => hS.uniq (hI.inR (hT z hz)) (hI.inR (hT y hy)) hzi

theorem Inv.setLt (hI : Inv π B P cb ops b N n0 es env0 s0 sEnd L a w pre R s σ envL) {la ea : Option Nat} (hS : Stat P ops es la ea) {e : TE} (he : e ∈ es) {j : Nat} : Ld (L.setIfInBounds e.x.i true) j = true ↔ j = e.x.i ∨ Ld L j = true :=
  Ld_set (by rw [hI.size]; exact hS.lt he)

theorem Inv.xof_up (hI : Inv π B P cb ops b N n0 es env0 s0 sEnd L a w pre R s σ envL) {la ea : Option Nat} (hS : Stat P ops es la ea) {e : TE} (he : e ∈ es) {c : Nat} {o : Obj} (h : Xof n0 L R c = some o) : Xof n0 (L.setIfInBounds e.x.i true) R c = some o := by
  obtain ⟨y, h1, h2, h3, h4, rfl, rfl⟩ := Xof_some h
  exact hI.xof hS (fun _ h => h) h1 ((hI.setLt hS he).2 (.inr h2)) h3 h4

theorem Inv.xof_down (hI : Inv π B P cb ops b N n0 es env0 s0 sEnd L a w pre R s σ envL) {la ea : Option Nat} (hS : Stat P ops es la ea) {e : TE} (he : e ∈ es) {c : Nat} {o : Obj} (h : Xof n0 (L.setIfInBounds e.x.i true) R c = some o) :
    Xof n0 L R c = some o ∨ (c = n0 + e.x.i ∧ o = e.ob ∧ e.on = true ∧ e.x.k = 2) := by
  obtain ⟨y, h1, h2, h3, h4, rfl, rfl⟩ := Xof_some h
  rcases (hI.setLt hS he).1 h2 with h | h
  · obtain rfl := hS.uniq (hI.inR h1) he h
    exact .inr ⟨rfl, rfl, h3, h4⟩
  · exact .inl (hI.xof hS (fun _ h => h) h1 h h3 h4)

theorem Inv.xof_same (hI : Inv π B P cb ops b N n0 es env0 s0 sEnd L a w pre R s σ envL) {la ea : Option Nat} (hS : Stat P ops es la ea) {e : TE} (he : e ∈ es) (hn : e.on = false ∨ e.x.k ≠ 2) : Xof n0 (L.setIfInBounds e.x.i true) R = Xof n0 L R := by
  funext c
  cases h : Xof n0 (L.setIfInBounds e.x.i true) R c with
  | none =>
    cases h2 : Xof n0 L R c with
    | none => rfl
    | some o => rw [hI.xof_up hS he h2] at h; simp at h
  | some o =>
    rcases hI.xof_down hS he h with h2 | ⟨_, _, h3, h4⟩
    · exact h2.symm
    · rcases hn with hn | hn
      · rw [hn] at h3; simp at h3
      · exact absurd h4 hn

theorem Inv.specPut (hI : Inv π B P cb ops b N n0 es env0 s0 sEnd L a w pre R s σ envL) {la ea : Option Nat} (hS : Stat P ops es la ea) {e : TE} (he : e ∈ es) (hd : Ld L e.x.i = false) :
    SpecE env0 (fun y => y ∈ es ∧ Ld (L.setIfInBounds e.x.i true) y.x.i = true) ((putC e.x.o).run envL e.v) := by
  refine hI.specL.put (fun y hy t ht => hS.dst hy.1 he (fun h => ?_) ht) fun y => ?_
  · rw [← h, hy.2] at hd; simp at hd
  · constructor
    · rintro ⟨h1, h2⟩
      rcases (hI.setLt hS he).1 h2 with h | h
      · exact .inr (hS.uniq h1 he h)
      · exact .inl ⟨h1, h⟩
    · rintro (⟨h1, h2⟩ | rfl)
      · exact ⟨h1, (hI.setLt hS he).2 (.inr h2)⟩
      · exact ⟨he, (hI.setLt hS he).2 (.inl rfl)⟩

theorem Inv.cloPut (hI : Inv π B P cb ops b N n0 es env0 s0 sEnd L a w pre R s σ envL) {la ea : Option Nat} (hS : Stat P ops es la ea) {e : TE} (he : e ∈ es) (hm : ∀ j, has e.x.m j = true → Ld L j = true) :
    ∀ y ∈ es, Ld (L.setIfInBounds e.x.i true) y.x.i = true → ∀ j, has y.x.m j = true → Ld (L.setIfInBounds e.x.i true) j = true := by
  intro y hy hl j hj
  refine (hI.setLt hS he).2 (.inr ?_)
  rcases (hI.setLt hS he).1 hl with h | h
  · obtain rfl := hS.uniq hy he h
    exact hm j hj
  · exact hI.clo y hy h j hj

/-- what is no act is done -/
theorem Inv.quiet (hI : Inv π B P cb ops b N n0 es env0 s0 sEnd L a w pre R s σ envL) {la ea : Option Nat} (hS : Stat P ops es la ea) {e : TE} (he : e ∈ es) (hd : Ld L e.x.i = false) (hm : ∀ j, has e.x.m j = true → Ld L j = true) (hk : e.x.k ≠ 3)
    (hN : (Option.rec true (fun d => Nat.blt d N) e.x.o.dst : Bool) = true) {σ' : Sg} {x : Value} {w' : World} (hx : VR π σ' e.v x) (hrel : Rel π B σ' (ovl (Xof n0 (L.setIfInBounds e.x.i true) R) s.H.know) w')
    (hext : Ext σ (ovl (Xof n0 L R) s.H.know) w σ' (ovl (Xof n0 (L.setIfInBounds e.x.i true) R) s.H.know) w') (hσ : ∀ c, c ≠ n0 + e.x.i → σ' c = σ c) :
    Inv π B P cb ops b N n0 es env0 s0 sEnd (L.setIfInBounds e.x.i true) (a.put e.x.o.dst x) w' pre R s σ' ((putC e.x.o).run envL e.v) := by
  obtain ⟨p1, p2, p3⟩ := put_ok (o := e.x.o) (hI.env.mono hext.sg) hx hI.tm hN
  have hset := fun j => hI.setLt hS he (j := j)
  refine ⟨hI.eqn, hI.chn, hI.spec, hI.hs, hI.nxt, by simp [hI.size], fun y hy => (hset _).2 (.inr (hI.preD y hy)), fun y hy hl => ?_, hI.cloPut hS he hm, p1, hI.specPut hS he hd, hrel, fun c hc => ?_, Nat.le_trans hI.base hext.size, hI.res, hI.unk, fun y hy hl => ?_,
    hI.ext.trans hext, hI.bn, ⟨hI.nx.nx, fun c hc => ?_, hI.nx.kn⟩, p2, p3.trans hI.df, hI.chP, hI.preA⟩
  · rcases (hset _).1 hl with h | h
    · rw [hS.uniq (hI.inR hy) he h]; exact hk
    · exact hI.rAct y hy h
  · have := hI.res e he
    rw [hσ c (by omega)]; exact hI.dom c hc
  · have hne : y.x.i ≠ e.x.i := fun h => by rw [(hset _).2 (.inl h)] at hl; simp at hl
    have hl2 : Ld L y.x.i = false := by
      cases h : Ld L y.x.i with
      | false => rfl
      | true => rw [(hset _).2 (.inr h)] at hl; simp at hl
    rw [hσ _ (by omega)]; exact hI.sn y hy hl2
  · have := hI.bn
    rw [hσ c (by omega)]; exact hI.nx.keep c hc

/-- the state ahead of an act -/
structure Ahead (π : Nat → Value) (B : Bd) (b : Base) (n0 : Nat) (L : Array Bool) (w : World) (R1 R2 : List TE) (e : TE) (s s1 : St) (σ : Sg) : Prop where
  done : ∀ y ∈ R1, Ld L y.x.i = true
  nx : s1.H.next = s.H.next
  sr : SR π B σ s1.H w
  lessX : ∀ c o, ovl (Xof n0 (L.setIfInBounds e.x.i true) R2) s1.H.know c = some o → ovl (Xof n0 L (R1 ++ e :: R2)) s.H.know c = some o
  unk : ∀ y ∈ R2, s1.H.know (n0 + y.x.i) = none
  nxb : Nx b.σ b.h σ s1.H

theorem Inv.ahead (hI : Inv π B P cb ops b N n0 es env0 s0 sEnd L a w pre R s σ envL) {la ea : Option Nat} (hS : Stat P ops es la ea) {e : TE} {R1 R2 : List TE} {s1 : St} (hR : R = R1 ++ e :: R2) (h1 : Chn P cb ops.toList n0 R1 s s1) (hm : ∀ j, has e.x.m j = true → Ld L j = true) (hk : e.x.k = 3) :
    Ahead π B b n0 L w R1 R2 e s s1 σ := by
  subst hR
  have hes : es = pre ++ (R1 ++ e :: R2) := hI.eqn
  have he : e ∈ es := by rw [hes]; simp
  have hin : ∀ y ∈ R1, y ∈ R1 ++ e :: R2 := fun y hy => by simp [hy]
  have hin2 : ∀ y ∈ R2, y ∈ R1 ++ e :: R2 := fun y hy => by simp [hy]
  have hor : ∀ y ∈ R1, has e.x.m y.x.i = true ∧ ∀ z ∈ R2, y.x.i ≠ z.x.i := fun y hy => by
    obtain ⟨l1, l2, rfl⟩ := List.append_of_mem hy
    have := (hS.ord (pre ++ l1) y (l2 ++ e :: R2) (by rw [hes]; simp)).2
    exact ⟨(this e (by simp)).2.2 hk, fun z hz => (this z (by simp [hz])).1⟩
  have he2 : ∀ z ∈ R2, e.x.i ≠ z.x.i := fun z hz => ((hS.ord (pre ++ R1) e R2 (by rw [hes]; simp)).2 z hz).1
  have hdone : ∀ y ∈ R1, Ld L y.x.i = true := fun y hy => hm _ (hor y hy).1
  obtain ⟨g1, g2⟩ := chn_heap h1 fun y hy => by
    have := hI.rAct y (hin y hy) (hdone y hy)
    have := hS.le3 (hI.inR (hin y hy))
    omega
  have lessH : ∀ c o, s1.H.know c = some o → ovl (Xof n0 L (R1 ++ e :: R2)) s.H.know c = some o := fun c o h => by
    rcases g2 c o h with h | ⟨y, hy, f1, f2, rfl, rfl⟩
    · have : Xof n0 L (R1 ++ e :: R2) c = none := by
        cases hx : Xof n0 L (R1 ++ e :: R2) c with
        | none => rfl
        | some u =>
          obtain ⟨y, hy, _, _, _, rfl, _⟩ := Xof_some hx
          rw [hI.unk y hy] at h; simp at h
      rw [ovl_k this]; exact h
    · exact ovl_x (hI.xof hS (fun _ h => h) (hin y hy) (hdone y hy) f1 f2)
  have hunk : ∀ y ∈ R2, s1.H.know (n0 + y.x.i) = none := fun y hy => by
    cases h : s1.H.know (n0 + y.x.i) with
    | none => rfl
    | some o =>
      rcases g2 _ o h with h | ⟨z, hz, _, _, f3, _⟩
      · rw [hI.unk y (hin2 y hy)] at h; simp at h
      · exact absurd (by omega) ((hor z hz).2 y hy)
  refine ⟨hdone, g1, ⟨hI.rel.less lessH, fun c hc => hI.dom c (g1 ▸ hc), hI.base⟩, fun c o h => ?_, hunk, ⟨g1 ▸ hI.nx.nx, hI.nx.keep, fun c o hc h => ?_⟩⟩
  · rcases ovl_inv h with h | ⟨_, h⟩
    · obtain ⟨y, hy, f1, f2, f3, rfl, rfl⟩ := Xof_some h
      refine ovl_x (hI.xof hS (fun _ h => h) (hin2 y hy) ?_ f2 f3)
      rcases (hI.setLt hS he).1 f1 with f | f
      · exact absurd f.symm (he2 y hy)
      · exact f
    · exact lessH c o h
  · have := hI.bn
    rcases g2 c o h with h | ⟨z, _, _, _, f3, _⟩
    · exact hI.nx.kn c o hc h
    · omega

/-- an act is done -/
theorem Inv.act (hI : Inv π B P cb ops b N n0 es env0 s0 sEnd L a w pre R s σ envL) {la ea : Option Nat} (hS : Stat P ops es la ea) {e : TE} {R1 R2 : List TE} {s1 : St} (hR : R = R1 ++ e :: R2) (h1 : Chn P cb ops.toList n0 R1 s s1) (hT : TEok P cb ops.toList n0 e s1) (h2 : Chn P cb ops.toList n0 R2 (nextS e s1) sEnd)
    (hs1 : SpecE env0 (fun y => y ∈ pre ++ R1) s1.env) (hd : Ld L e.x.i = false) (hm : ∀ j, has e.x.m j = true → Ld L j = true) (hk : e.x.k = 3) (hA : Ahead π B b n0 L w R1 R2 e s s1 σ)
    (hN : (Option.rec true (fun d => Nat.blt d N) e.x.o.dst : Bool) = true) {σ' : Sg} {x : Value} {w' : World} (hx : VR π σ' e.v x) (hsr : SR π B σ' e.H2 w') (hext : Ext σ s1.H.know w σ' e.H2.know w') (hnx : Nx σ s1.H σ' e.H2) :
    Inv π B P cb ops b N n0 es env0 s0 sEnd (L.setIfInBounds e.x.i true) (a.put e.x.o.dst x) w' (pre ++ R1 ++ [e]) R2 (nextS e s1) σ' ((putC e.x.o).run envL e.v) := by
  subst hR
  have hes : es = pre ++ (R1 ++ e :: R2) := hI.eqn
  have he : e ∈ es := by rw [hes]; simp
  have hin2 : ∀ y ∈ R2, y ∈ R1 ++ e :: R2 := fun y hy => by simp [hy]
  have he2 : ∀ z ∈ R2, e.x.i ≠ z.x.i := fun z hz => ((hS.ord (pre ++ R1) e R2 (by rw [hes]; simp)).2 z hz).1
  have hset := fun j => hI.setLt hS he (j := j)
  have hac : isAct e.x = true := isAct_iff.2 hk
  obtain ⟨p1, p2, p3⟩ := put_ok (o := e.x.o) (hI.env.mono hext.sg) hx hI.tm hN
  obtain ⟨r1, r2⟩ := Rel.lift (X := Xof n0 (L.setIfInBounds e.x.i true) R2) (hI.rel.less hA.lessX) (fun c o h => by
    obtain ⟨y, hy, _, _, _, rfl, _⟩ := Xof_some h
    exact hA.unk y hy) hext hsr.rel
  have hHn : (nextS e s1).H = e.H2 := rfl
  refine ⟨by rw [hes]; simp, h2, ?_, ⟨s1.hs, by unfold nextS; rw [hac]⟩, hT.big2, by simp [hI.size], fun y hy => ?_, fun y hy hl => ?_, hI.cloPut hS he hm, p1, hI.specPut hS he hd, r1, hsr.dom, hsr.base, fun y hy => ?_, fun y hy => ?_, fun y hy hl => ?_,
    (hI.ext.less hA.lessX).trans r2, hI.bn, hA.nxb.trans hnx, p2, p3.trans hI.df, Chn.snoc (Chn.join hI.chP h1) hT, .inr ⟨pre ++ R1, e, rfl, hk⟩⟩
  · refine hs1.put (e := e) (fun y hy t ht => ?_) fun y => by simp [or_assoc]
    have hye : y ∈ es := by rw [hes, ← List.append_assoc]; exact List.mem_append_left _ hy
    refine hS.dst hye he ?_ ht
    obtain ⟨l1, l2, h3⟩ := List.append_of_mem hy
    exact ((hS.ord l1 y (l2 ++ e :: R2) (by rw [hes, ← List.append_assoc, h3]; simp)).2 e (by simp)).1
  · rcases List.mem_append.1 hy with hy | hy
    · rcases List.mem_append.1 hy with hy | hy
      · exact (hset _).2 (.inr (hI.preD y hy))
      · exact (hset _).2 (.inr (hA.done y hy))
    · simp at hy; subst hy; exact (hset _).2 (.inl rfl)
  · rcases (hset _).1 hl with h | h
    · exact absurd h.symm (he2 y hy)
    · exact hI.rAct y (hin2 y hy) h
  · have g1 := hI.res y hy
    have g2 := hnx.nx
    have g3 := hA.nx
    rw [hHn]; omega
  · rw [hHn]
    cases h : e.H2.know (n0 + y.x.i) with
    | none => rfl
    | some o =>
      have g1 := hI.res y (hI.inR (hin2 y hy))
      obtain ⟨o', h'⟩ := hnx.kn _ o (by rw [hA.nx]; exact g1) h
      rw [hA.unk y hy] at h'; simp at h'
  · have g1 := hI.res y (hI.inR (hin2 y hy))
    rw [hnx.keep _ (by rw [hA.nx]; exact g1)]
    refine hI.sn y (hin2 y hy) ?_
    cases h : Ld L y.x.i with
    | false => rfl
    | true => rw [(hset _).2 (.inr h)] at hl; simp at hl

/-- all is done -/
theorem Inv.fin (hI : Inv π B P cb ops b N n0 es env0 s0 sEnd L a w pre R s σ envL) {la ea : Option Nat} (hS : Stat P ops es la ea) (hall : ∀ e ∈ es, Ld L e.x.i = true) : Done π B b N .normal sEnd.env sEnd.H .normal a w := by
  have hd : ∀ y ∈ R, Ld L y.x.i = true := fun y hy => hall y (hI.inR hy)
  obtain ⟨g1, g2⟩ := chn_heap hI.chn fun y hy => by
    have := hI.rAct y hy (hd y hy)
    have := hS.le3 (hI.inR hy)
    omega
  have hspec := chn_env hS (R2 := []) (by rw [hI.eqn]; simp) hI.chn hI.spec
  have lessH : ∀ c o, sEnd.H.know c = some o → ovl (Xof n0 L R) s.H.know c = some o := fun c o h => by
    rcases g2 c o h with h | ⟨y, hy, f1, f2, rfl, rfl⟩
    · have : Xof n0 L R c = none := by
        cases hx : Xof n0 L R c with
        | none => rfl
        | some u =>
          obtain ⟨y, hy, _, _, _, rfl, _⟩ := Xof_some hx
          rw [hI.unk y hy] at h; simp at h
      rw [ovl_k this]; exact h
    · exact ovl_x (hI.xof hS (fun _ h => h) hy (hd y hy) f1 f2)
  refine ⟨σ, trivial, fun t v hv => ?_, ⟨hI.rel.less lessH, fun c hc => hI.dom c (g1 ▸ hc), hI.base⟩, hI.ext.less lessH, ⟨g1 ▸ hI.nx.nx, hI.nx.keep, fun c o hc h => ?_⟩, hI.tm, hI.df⟩
  · refine hI.env t v ?_
    rw [← hv]
    rw [← hI.eqn] at hspec
    by_cases hw : ∃ y ∈ es, y.x.o.dst = some t
    · obtain ⟨y, hy, ht⟩ := hw
      rw [hI.specL.w y ⟨hy, hall y hy⟩ t ht, hspec.w y hy t ht]
    · rw [hI.specL.n t fun y hy ht => hw ⟨y, hy.1, ht⟩, hspec.n t fun y hy ht => hw ⟨y, hy, ht⟩]
  · have := hI.bn
    rcases g2 c o h with h | ⟨z, _, _, _, f3, _⟩
    · exact hI.nx.kn c o hc h
    · omega

end
end Go.Proofs.Ytlnjikneepgpaaa.Fast
