/- A region that draws its order does, in each order, what the run does in its one. -/
import Derived.Test.YtlnjikneepgpaaaEvDraw4
namespace Go.Proofs.Ytlnjikneepgpaaa.Fast
section
variable {π : Nat → Value} {B : Bd} {P : Program}

def cnt : List Bool → Nat
  | [] => 0
  | b :: t => cnt t + (if b then 0 else 1)

theorem cnt_set : ∀ (l : List Bool) (i : Nat), l[i]? = some false → cnt (l.set i true) + 1 = cnt l
  | [], i, h => by simp at h
  | b :: t, 0, h => by simp at h; subst h; simp [cnt]
  | b :: t, i + 1, h => by
    have := cnt_set t i (by simpa using h)
    show cnt (t.set i true) + (if b then 0 else 1) + 1 = cnt t + (if b then 0 else 1)
    omega

theorem cnt_zero : ∀ (l : List Bool), cnt l = 0 → ∀ i, i < l.length → l[i]? = some true
  | [], _, i, h => by simp at h
  | b :: t, h, i, hi => by
    have h : cnt t + (if b then 0 else 1) = 0 := h
    cases b with
    | false => simp at h
    | true => cases i with
      | zero => rfl
      | succ i => simpa using cnt_zero t (by simpa using h) i (by simpa using hi)

theorem cnt_le : ∀ (l : List Bool), cnt l ≤ l.length
  | [] => Nat.le_refl _
  | b :: t => by
    have := cnt_le t
    show cnt t + (if b then 0 else 1) ≤ t.length + 1
    split <;> omega

theorem first_not {α : Type} (p : α → Bool) : ∀ (l : List α), (∀ x ∈ l, p x = true) ∨ ∃ l1 x l2, l = l1 ++ x :: l2 ∧ p x = false ∧ ∀ y ∈ l1, p y = true
  | [] => .inl (by simp)
  | a :: l => by
    cases h : p a with
    | false => exact .inr ⟨[], a, l, rfl, h, by simp⟩
    | true =>
      rcases first_not p l with h1 | ⟨l1, x, l2, rfl, h2, h3⟩
      · exact .inl (by simpa [h] using h1)
      · exact .inr ⟨a :: l1, x, l2, rfl, h2, by simpa [h] using h3⟩

theorem ready_mem {ops : Array Oper} {L : Array Bool} (hs : L.size = ops.size) {i : Nat} : i ∈ Region.ready .any ops L ↔ i < ops.size ∧ Ld L i = false ∧ ∃ o, ops[i]? = some o ∧ ∀ e ∈ o.after.toList, Region.binds .any e = true → Ld L e.on = true := by
  unfold Region.ready Ld
  rw [List.mem_filter, List.mem_range]
  refine and_congr_right fun hi => ?_
  have hL : L.getD i true = L.getD i false := by
    rw [Array.getD_eq_getD_getElem?, Array.getD_eq_getD_getElem?, Array.getElem?_eq_getElem (by omega)]; rfl
  rw [hL, Bool.and_eq_true, Array.getElem?_eq_getElem hi]
  simp only [Option.map_some, Option.getD_some, Array.all_eq_true_iff_forall_mem, Bool.or_eq_true, Bool.not_eq_true']
  refine and_congr_right fun _ => ⟨fun h => ⟨_, rfl, fun e he hb => ?_⟩, fun ⟨o, ho, h⟩ e he => ?_⟩
  · rcases h e (by simpa using he) with h | h
    · rw [hb] at h; simp at h
    · exact h
  · obtain rfl := Option.some.inj ho
    cases hb : Region.binds .any e with
    | false => exact .inl rfl
    | true => exact .inr (h e (by simpa using he) hb)

section
variable {cb : Cb} {ops : Array Oper} {b : Base} {N n0 : Nat} {es : List TE} {env0 : Env} {s0 sEnd : St} {L : Array Bool} {a : Act} {w : World} {pre R : List TE} {s : St} {σ : Sg} {envL : Env}

theorem Inv.ready (hI : Inv π B P cb ops b N n0 es env0 s0 sEnd L a w pre R s σ envL) {la ea : Option Nat} (hS : Stat P ops es la ea) (h : Region.ready .any ops L = []) : ∀ e ∈ es, Ld L e.x.i = true := by
  rcases first_not (fun e : TE => Ld L e.x.i) es with h1 | ⟨l1, e, l2, hes, h2, h3⟩
  · exact h1
  · exfalso
    have he : e ∈ es := by rw [hes]; simp
    have hmem := (hS.mem e he)
    have : e.x.i ∈ Region.ready .any ops L := by
      refine (ready_mem hI.size).2 ⟨hS.lt he, h2, e.x.o, by rw [← Array.getElem?_toList]; exact hmem.1, fun d hd hb => ?_⟩
      have hh : has e.x.m d.on = true := by rw [hmem.2.1]; exact ML_edge (M_edge hmem.1 hd hb)
      obtain ⟨y, hy, hyi⟩ := hS.all d.on (hS.bnd e he _ hh)
      have ho := hS.ord l1 e l2 hes
      rw [← hyi] at hh ⊢
      rw [hes] at hy
      rcases List.mem_append.1 hy with hy | hy
      · exact h3 y hy
      · rcases List.mem_cons.1 hy with rfl | hy
        · rw [ho.1] at hh; simp at hh
        · rw [(ho.2 y hy).2.1] at hh; simp at hh
    rw [h] at this; simp at this

theorem Inv.step (hπ : ∀ i, (π i).oneCell' = true) (hcb : CbOk π B P cb) (hok : ∀ o ∈ ops.toList, (Option.rec true (fun d => Nat.blt d N) o.dst : Bool) = true) (hI : Inv π B P cb ops b N n0 es env0 s0 sEnd L a w pre R s σ envL) {la ea : Option Nat} (hS : Stat P ops es la ea) {i : Nat} (hi : i ∈ Region.ready .any ops L) (hx : la = some i → ∀ a, ea = some a → Ld L a = true)
    {K : Act → World → Prop} {Q : Exit → Act → World → Prop} (hK : ∀ a' w' pre' R' s' σ' envL', Inv π B P cb ops b N n0 es env0 s0 sEnd (L.setIfInBounds i true) a' w' pre' R' s' σ' envL' → K a' w') : wpOp P ops Q i K a w := by
  obtain ⟨hi1, hd, o, ho, hed⟩ := (ready_mem hI.size).1 hi
  obtain ⟨e, he, rfl⟩ := hS.all i hi1
  have hmem := hS.mem e he
  obtain rfl : e.x.o = o := by
    have := hmem.1
    rw [Array.getElem?_toList, ho] at this
    exact (Option.some.inj this).symm
  have hm : ∀ j, has e.x.m j = true → Ld L j = true := fun j hj => by
    have hj0 := hj
    rw [hmem.2.1] at hj
    rcases ML_bit hj with hj | ⟨g1, q, g2, g3⟩
    · obtain ⟨d, h1, h2, h3⟩ := M_bit hmem.1 hj
      have h4 := hed d h1 h2
      rcases h3 with rfl | h3
      · exact h4
      · obtain ⟨y, hy, hyi⟩ := hS.all d.on (by
          refine hS.bnd e he _ ?_
          rw [hmem.2.1]; exact ML_edge (M_edge hmem.1 h1 h2))
        refine hI.clo y hy (by rw [hyi]; exact h4) j ?_
        rw [(hS.mem y hy).2.1, hyi]; exact ML_edge h3
    · have h4 := hx g1 q g2
      rcases g3 with rfl | g3
      · exact h4
      · have hq : q < ops.size := by
          have : q < L.size := by
            rcases Nat.lt_or_ge q L.size with h' | h'
            · exact h'
            · unfold Ld at h4
              rw [Array.getD_eq_getD_getElem?, Array.getElem?_eq_none h'] at h4; simp at h4
          rw [← hI.size]; exact this
        obtain ⟨y, hy, hyi⟩ := hS.all q hq
        refine hI.clo y hy (by rw [hyi]; exact h4) j ?_
        rw [(hS.mem y hy).2.1, hyi]; exact ML_edge g3
  have hN := hok e.x.o (List.mem_of_getElem? hmem.1)
  obtain ⟨R1, R2, s1, hR, c1, hT, c2, hs1⟩ := hI.split hS he hd
  have hlook := hI.looks hS hR hd hm hs1
  have hw : Region.wanted e.x.o (yielded ops a.tmps) = e.on := want_ok hI.env (by rw [want_congr hlook]; exact hT.want)
  have hag : Agree envL s1.env e.x.o.op.operands.toList := agree_of fun t ht => hlook t (looks_tmps ht)
  have haop : ∀ H, (aop P e.x.o).run envL H = (aop P e.x.o).run s1.env H := fun H => aop_congr hag
  unfold wpOp
  rw [ho]
  dsimp only
  rw [hw]
  cases hon : e.on with
  | false =>
    rw [if_neg (by simp)]
    obtain ⟨f1, f2⟩ := hT.off hon
    have hv : VR π σ e.v undef := by rw [f1]; exact undef_VR
    by_cases hk : e.x.k = 3
    · have hA := hI.ahead hS hR c1 hm hk
      refine hK _ _ _ _ _ _ _ (hI.act hS hR c1 hT c2 hs1 hd hm hk hA hN hv ?_ ?_ ?_)
      · rw [f2]; exact hA.sr
      · rw [f2]; exact Ext.refl _ _ _
      · rw [f2]; exact Nx.refl _ _
    · have hx := hI.xof_same hS he (.inl hon)
      refine hK _ _ _ _ _ _ _ (hI.quiet hS he hd hm hk hN hv ?_ ?_ fun _ _ => rfl)
      · rw [hx]; exact hI.rel
      · rw [hx]; exact Ext.refl _ _ _
  | true =>
    rw [if_pos rfl]
    refine .inl ?_
    unfold Oper.wp
    have go : ∀ (x : Value) (w' : World), Yl P e.x.o a w x w' → K (a.put e.x.o.dst x) w' → Oper.upon P e.x.o a K Q ((execOp a.eval e.x.o).run P w) := fun x w' hy hk => by
      rcases hy with hy | ⟨hy, rfl⟩
      · rw [hy, Oper.upon_value]; exact hk
      · rw [hy, Oper.upon_skip]; exact hk
    rcases (show e.x.k = 0 ∨ e.x.k = 1 ∨ e.x.k = 2 ∨ e.x.k = 3 from by have := hS.le3 he; omega) with hk | hk | hk | hk
    · obtain ⟨_, H1, g2, g3⟩ := hT.on0 hon hk
      have hsr : SR π B σ ⟨.e, BIG⟩ w := ⟨⟨fun b o h => by simp [Heap.know, Heap.get, Tr.get_e] at h, fun b b' o o' L L' h => by simp [Heap.know, Heap.get, Tr.get_e] at h, hI.rel.low⟩, fun c hc => hI.dom c (Nat.le_trans hI.nxt hc), hI.base⟩
      have hop := aop_ok (P := P) (o := e.x.o) hπ hsr hI.env
      rw [haop, g2] at hop
      obtain ⟨σ', x, w', hy, hv, hS', hE, hn⟩ := hop
      refine go x w' hy ?_
      have hx := hI.xof_same hS he (.inr (by omega))
      have hkn : ∀ c, (⟨.e, BIG⟩ : Heap).know c = none := fun c => rfl
      obtain ⟨r1, r2⟩ := Rel.lift (X := ovl (Xof n0 L R) s.H.know) (hI.rel.less fun c o h => by
        rcases ovl_inv h with h | ⟨_, h⟩
        · exact h
        · rw [hkn] at h; simp at h) (fun c o _ => hkn c) hE hS'.rel
      have l1 : ∀ K c o, ovl (Xof n0 L R) s.H.know c = some o → ovl (ovl (Xof n0 L R) s.H.know) K c = some o := fun K c o h => ovl_x h
      have l0 : ovl (ovl (Xof n0 L R) s.H.know) (⟨.e, BIG⟩ : Heap).know = ovl (Xof n0 L R) s.H.know := by
        funext c
        cases h : ovl (Xof n0 L R) s.H.know c with
        | none => rw [ovl_k h]; exact hkn c
        | some o => exact ovl_x h
      rw [l0] at r2
      refine hK _ _ _ _ _ _ _ (hI.quiet hS he hd hm (by omega) hN hv ?_ ?_ fun c _ => ?_)
      · rw [hx]; exact r1.less (l1 _)
      · rw [hx]; exact r2.less (l1 _)
      · rcases Nat.lt_or_ge c BIG with h | h
        · exact hn.keep c h
        · rw [hS'.dom c (by omega), hI.dom c (Nat.le_trans hI.nxt h)]
    · obtain ⟨_, Hk, tl, H1, g1, g2, g3, g4⟩ := hT.on1 hon hk
      obtain ⟨tl0, htl⟩ := hI.hs
      obtain ⟨l, k1, k2, k3⟩ := chn_hs c1
      have hr : ∃ H1, (aop P e.x.o).run s1.env s.H.big = .val e.v H1 ∧ H1.next = BIG := by
        rw [htl] at k1
        cases l with
        | nil =>
          obtain ⟨rfl, _⟩ := List.cons.inj (k1.symm.trans g1)
          exact ⟨H1, g2, g3⟩
        | cons Hl l =>
          have k1' : Hk :: tl = Hl :: (l ++ s.H :: tl0) := g1.symm.trans k1
          obtain ⟨_, rfl⟩ := List.cons.inj k1'
          refine sameIn_get g4 l.length s.H ?_ (by simp)
          have hle : (R1.filter fun e => isAct e.x).length ≤ slack e.x.m s1.acts := by
            unfold slack
            rw [len_eq, k2]
            have hf : ∀ (p : It → Bool) (q : List It), filt p q = q.filter p := fun p q => by
              induction q with
              | nil => rfl
              | cons a q ih =>
                show (Bool.rec (filt p q) (a :: filt p q) (p a) : List It) = _
                cases h : p a <;> simp [h, ih]
            rw [hf, List.filter_append, List.length_append]
            have : ((R1.filter fun e => isAct e.x).map (·.x)).filter (fun a => bnot (has e.x.m a.i)) = (R1.filter fun e => isAct e.x).map (·.x) := by
              refine List.filter_eq_self.2 fun y hy => ?_
              obtain ⟨z, hz, rfl⟩ := List.mem_map.1 hy
              obtain ⟨hz1, hz2⟩ := List.mem_filter.1 hz
              rw [bnot_eq]
              cases hh : has e.x.m z.x.i with
              | false => rfl
              | true => exact absurd (isAct_iff.1 hz2) (hI.rAct z (by rw [hR]; simp [hz1]) (hm _ hh))
            rw [this, List.length_map]
            omega
          simp at k3
          omega
      obtain ⟨H2, g5, g6⟩ := hr
      have hkn : s.H.big.know = s.H.know := rfl
      have hK0 : ∀ c o, Xof n0 L R c = some o → s.H.big.know c = none := fun c o h => by
        obtain ⟨y, hy, _, _, _, rfl, _⟩ := Xof_some h
        rw [hkn]; exact hI.unk y hy
      have hsr : SR π B σ s.H.big w := ⟨hI.rel.less fun c o h => by
        cases hx : Xof n0 L R c with
        | none => rw [ovl_k hx]; exact h
        | some u => rw [hK0 c u hx] at h; simp at h, fun c hc => hI.dom c (Nat.le_trans hI.nxt hc), hI.base⟩
      have hop := aop_ok (P := P) (o := e.x.o) hπ hsr hI.env
      rw [haop, g5] at hop
      obtain ⟨σ', x, w', hy, hv, hS', hE, hn⟩ := hop
      obtain rfl := read_same (by rw [← hmem.2.2]; exact hk) g5
      refine go x w' hy ?_
      have hx := hI.xof_same hS he (.inr (by omega))
      obtain ⟨r1, r2⟩ := Rel.lift (X := Xof n0 L R) hI.rel hK0 hE hS'.rel
      refine hK _ _ _ _ _ _ _ (hI.quiet hS he hd hm (by omega) hN hv ?_ ?_ fun c _ => ?_)
      · rw [hx]; exact r1
      · rw [hx]; exact r2
      · rcases Nat.lt_or_ge c BIG with h | h
        · exact hn.keep c h
        · rw [hS'.dom c (by omega), hI.dom c (Nat.le_trans hI.nxt h)]
    · obtain ⟨f, g1, g2, g3, g4⟩ := hT.on2 hon hk
      have g1 : (freC P e.x.o).run envL = some f := by rw [freC_congr hag]; exact g1
      obtain ⟨x, C, csz, q1, q2⟩ := (freC_ok (a := a) (w := w) hπ hI.env g1).ex
      have heR : e ∈ R := by rw [hR]; simp
      obtain ⟨σ', t1, t2, t3, t4, t5⟩ := Rel.more (w' := w.alloc C) hI.rel hI.base (n0 + e.x.i) e.ob ⟨w.heap.size, 0, csz⟩ (hI.sn e heR hd) rfl
        (fun k hk => by show (w.heap.push C)[k]? = _; simp [Array.getElem?_push, Nat.ne_of_lt hk]) (by show w.heap.size ≤ (w.heap.push C).size; simp) ⟨rfl, rfl, rfl⟩ (fun σ' h1 h2 => by
          rw [g3]; exact (q2 σ' _ h1 h2).2 _ (by show (w.heap.push C)[w.heap.size]? = _; simp))
      have hless : ∀ c o, ovl (Xof n0 (L.setIfInBounds e.x.i true) R) s.H.know c = some o → ovl (fun b => if b = n0 + e.x.i then some e.ob else Xof n0 L R b) s.H.know c = some o := fun c o h => by
        rcases ovl_inv h with h | ⟨h1, h2⟩
        · rcases hI.xof_down hS he h with h | ⟨rfl, rfl, _⟩
          · refine ovl_x ?_
            have hne : c ≠ n0 + e.x.i := fun e1 => by
              obtain ⟨y, _, y1, _, _, y2, _⟩ := Xof_some h
              have : y.x.i = e.x.i := by omega
              rw [this, hd] at y1; simp at y1
            rw [if_neg hne]; exact h
          · exact ovl_x (by rw [if_pos rfl])
        · have hne : c ≠ n0 + e.x.i := fun e1 => by rw [e1, hI.unk e heR] at h2; simp at h2
          refine (ovl_k ?_).trans h2
          rw [if_neg hne]
          cases hx : Xof n0 L R c with
          | none => rfl
          | some u => rw [hI.xof_up hS he hx] at h1; simp at h1
      refine go x (w.alloc C) (.inl q1) ?_
      refine hK _ _ _ _ _ _ _ (hI.quiet hS he hd hm (by omega) hN (by rw [g2]; exact (q2 σ' _ t3 t1).1) (t4.less hless) (t5.less hless) fun c hc => t2 c hc)
    · have hA := hI.ahead hS hR c1 hm hk
      have next : ∀ (σ' : Sg) (x : Value) (w' : World), VR π σ' e.v x → SR π B σ' e.H2 w' → Ext σ s1.H.know w σ' e.H2.know w' → Nx σ s1.H σ' e.H2 → K (a.put e.x.o.dst x) w' := fun σ' x w' hv hS' hE hn =>
        hK _ _ _ _ _ _ _ (hI.act hS hR c1 hT c2 hs1 hd hm hk hA hN hv hS' hE hn)
      have hop := aop_ok (P := P) (o := e.x.o) hπ hA.sr hI.env
      rw [haop] at hop
      rcases hT.on3 hon hk with hr | ⟨f, args, hr, hc⟩
      · rw [hr] at hop
        obtain ⟨σ', x, w', hy, hv, hS', hE, hn⟩ := hop
        exact go x w' hy (next σ' x w' hv hS' hE hn)
      · rw [hr] at hop
        obtain ⟨xs, hx, hl⟩ := hop
        have hh := hcb f args s1.H (by rw [hc]; trivial) σ w xs hA.sr hl
        rw [hc] at hh
        rcases hh with ⟨h1, h2⟩ | ⟨y, w', h1, h2⟩
        · rw [hx, h1, Oper.upon_enter]
          refine h2.mono fun e' w' hr => ?_
          obtain ⟨σ', y, rfl, hv, hS', hE, hn⟩ := hr
          exact next σ' y w' hv hS' hE hn
        · rw [hx, h1, Oper.upon_value]
          obtain ⟨σ', y', h3, hv, hS', hE, hn⟩ := h2
          obtain rfl := Ending.returned.inj h3
          exact next σ' y w' hv hS' hE hn

theorem all_done {la ea : Option Nat} (hI : Inv π B P cb ops b N n0 es env0 s0 sEnd L a w pre R s σ envL) (hS : Stat P ops es la ea) (hc : cnt L.toList = 0) : Region.ready .any ops L = [] ∧ ∀ e ∈ es, Ld L e.x.i = true := by
  have hall : ∀ e ∈ es, Ld L e.x.i = true := fun e he => by
    have := cnt_zero L.toList hc e.x.i (by rw [Array.length_toList, hI.size]; exact hS.lt he)
    unfold Ld
    rw [Array.getElem?_toList] at this
    rw [Array.getD_eq_getD_getElem?, this]; rfl
  refine ⟨List.eq_nil_iff_forall_not_mem.2 fun i hi => ?_, hall⟩
  obtain ⟨h1, h2, _⟩ := (ready_mem hI.size).1 hi
  obtain ⟨e, he, rfl⟩ := hS.all i h1
  rw [hall e he] at h2; simp at h2

theorem cnt_step (hI : Inv π B P cb ops b N n0 es env0 s0 sEnd L a w pre R s σ envL) {i : Nat} (hi : i ∈ Region.ready .any ops L) {fuel : Nat} (hc : cnt L.toList ≤ fuel + 1) : cnt (L.setIfInBounds i true).toList ≤ fuel := by
  obtain ⟨h1, h2, _⟩ := (ready_mem hI.size).1 hi
  have h3 : L.toList[i]? = some false := by
    unfold Ld at h2
    rw [Array.getElem?_toList, Array.getElem?_eq_getElem (by rw [hI.size]; exact h1)]
    rw [Array.getD_eq_getD_getElem?, Array.getElem?_eq_getElem (by rw [hI.size]; exact h1)] at h2
    exact congrArg some h2
  have := cnt_set _ _ h3
  rw [Array.toList_setIfInBounds]
  omega

theorem Ld_keep (hI : Inv π B P cb ops b N n0 es env0 s0 sEnd L a w pre R s σ envL) {i j : Nat} (hi : i ∈ Region.ready .any ops L) (h : Ld L j = true) : Ld (L.setIfInBounds i true) j = true :=
  (Ld_set (by rw [hI.size]; exact ((ready_mem hI.size).1 hi).1)).2 (.inr h)

theorem Inv.any (hπ : ∀ i, (π i).oneCell' = true) (hcb : CbOk π B P cb) (hok : ∀ o ∈ ops.toList, (Option.rec true (fun d => Nat.blt d N) o.dst : Bool) = true) {la ea : Option Nat} (hS : Stat P ops es la ea) {Q : Exit → Act → World → Prop} (hQ : ∀ a w, Done π B b N .normal sEnd.env sEnd.H .normal a w → Q .normal a w) :
    ∀ (fuel : Nat) (L : Array Bool) (a : Act) (w : World) (pre R : List TE) (s : St) (σ : Sg) (envL : Env),
    Inv π B P cb ops b N n0 es env0 s0 sEnd L a w pre R s σ envL → (∀ q, ea = some q → Ld L q = true) → cnt L.toList ≤ fuel → wpAny P .any ops Q fuel L a w
  | 0, L, a, w, pre, R, s, σ, envL, hI, _, hc => let ⟨h1, h2⟩ := all_done hI hS (by omega); ⟨h1, hQ _ _ (hI.fin hS h2)⟩
  | fuel + 1, L, a, w, pre, R, s, σ, envL, hI, hx, hc =>
    ⟨fun h => hQ _ _ (hI.fin hS (hI.ready hS h)), fun i hi => hI.step hπ hcb hok hS hi (fun _ q hq => hx q hq) fun a' w' pre' R' s' σ' envL' hI' =>
      Inv.any hπ hcb hok hS hQ fuel _ a' w' pre' R' s' σ' envL' hI' (fun q hq => Ld_keep hI hi (hx q hq)) (cnt_step hI hi hc)⟩

end

/- two last stores that come in either order -/
theorem isSt_some {x : It} (h : isSt x = true) : ∃ t a v, x.o.op = .store t a v ∧ x.o.guard = none ∧ x.o.dst = none := by
  unfold isSt at h
  split at h
  · rename_i t a v h1 h2 h3
    exact ⟨t, a, v, h1, h2, h3⟩
  · simp at h

theorem Tr.get_fwd {α : Type} (x : α) : ∀ (f : Nat) (t : Tr α) (k j : Nat) (u : α), k + 2 ≤ 2 ^ f → j ≠ k → t.get j = some u → (t.set x f k).get j = some u := by
  intro f
  induction f with
  | zero => intro t k j u h; simp at h
  | succ f ih =>
    intro t k j u hk hj h
    cases t with
    | e => rw [Tr.get_e] at h; simp at h
    | n v l r =>
      cases k with
      | zero =>
        cases j with
        | zero => exact absurd rfl hj
        | succ j =>
          show (Tr.n (some x) l r).get (j + 1) = some u
          rw [Tr.get_n] at h ⊢
          exact h
      | succ k =>
        have hk2 : k / 2 + 2 ≤ 2 ^ f := by rw [Nat.pow_succ] at hk; omega
        show (pick k (fun q => Tr.n v (l.set x f q) r) (fun q => Tr.n v l (r.set x f q))).get j = some u
        unfold pick
        cases j with
        | zero => cases even k <;> exact h
        | succ j =>
          rw [Tr.get_n] at h
          cases h2 : even k with
          | true =>
            have e2 := even_true h2
            show (Tr.n v (l.set x f (k / 2)) r).get (j + 1) = some u
            rw [Tr.get_n]
            by_cases hj2 : j % 2 = 0
            · rw [if_pos hj2] at h ⊢
              exact ih l (k / 2) (j / 2) u hk2 (by omega) h
            · rw [if_neg hj2] at h ⊢; exact h
          | false =>
            have e2 := even_false h2
            show (Tr.n v l (r.set x f (k / 2))).get (j + 1) = some u
            rw [Tr.get_n]
            by_cases hj2 : j % 2 = 0
            · rw [if_pos hj2] at h ⊢; exact h
            · rw [if_neg hj2] at h ⊢
              exact ih r (k / 2) (j / 2) u hk2 (by omega) h

theorem put_iff {H : Heap} {b c : Nat} {o u : Obj} (hb : b < 1000000000) (hc : c ≠ b) : (H.put b o).get c = some u ↔ H.get c = some u := by
  constructor
  · intro h
    rcases Heap.get_put h with ⟨h1, _⟩ | ⟨_, h1⟩
    · exact absurd h1 hc
    · exact h1
  · exact Tr.get_fwd o 40 H.bl b c u (by have : (2 : Nat) ^ 40 = 1099511627776 := by decide
                                         omega) hc

theorem store_put {o : Oper} {t : Nat} {ad y : Operand} (ho : o.op = .store t ad y) {env : Env} {H H' : Heap} {v : AV} (h : (aop P o).run env H = .val v H') : ∃ p o', obind ((gop ad).run env) ptrOf = some p ∧ H' = H.put p.1 o' := by
  unfold aop at h
  rw [ho] at h
  have h : (ob ((gop ad).run env) fun v => ob (ptrOf v) fun p => ob ((gop y).run env) fun u => Go.Proofs.Ytlnjikneepgpaaa.Fast.ho ((stT P t).run H p u)) = .val v H' := h
  cases h1 : (gop ad).run env with
  | none => rw [h1] at h; simp [ob] at h
  | some a =>
    rw [h1] at h
    have h : (ob (ptrOf a) fun p => ob ((gop y).run env) fun u => Go.Proofs.Ytlnjikneepgpaaa.Fast.ho ((stT P t).run H p u)) = .val v H' := h
    cases h2 : ptrOf a with
    | none => rw [h2] at h; simp [ob] at h
    | some p =>
      rw [h2] at h
      have h : (ob ((gop y).run env) fun u => Go.Proofs.Ytlnjikneepgpaaa.Fast.ho ((stT P t).run H p u)) = .val v H' := h
      cases h3 : (gop y).run env with
      | none => rw [h3] at h; simp [ob] at h
      | some u =>
        rw [h3] at h
        have h : Go.Proofs.Ytlnjikneepgpaaa.Fast.ho ((stT P t).run H p u) = .val v H' := h
        cases h4 : (stT P t).run H p u with
        | none => rw [h4] at h; simp [Go.Proofs.Ytlnjikneepgpaaa.Fast.ho] at h
        | some H2 =>
          rw [h4] at h
          obtain ⟨_, rfl⟩ := OR.val.inj (show OR.val (.tuple []) H2 = .val v H' from h)
          refine ⟨p, ?_⟩
          unfold stT at h4
          split at h4
          · obtain ⟨_, h5⟩ := oif_some h4
            obtain ⟨_, h6⟩ := oif_some h5
            obtain ⟨ob, g1, g2⟩ := obind_some (show obind (H.get p.1) (wrRow H p.1 p.2 u.cells) = some H2 from h6)
            cases ob with
            | row l e lo hi =>
              obtain ⟨_, g4⟩ := oif_some (show oif (apart p.2 (len u.cells) lo hi) (obind (over u.cells l p.2) fun l' => some (H.put p.1 (.row l' e lo hi))) = some H2 from g2)
              obtain ⟨l', _, g6⟩ := obind_some g4
              exact ⟨_, h2, (Option.some.inj g6).symm⟩
            | _ => exact absurd (show none = some H2 from g2) (by simp)
          · simp at h4

/-- a chain of what looks at slots alone and of stores -/
theorem chn_st {cb : Cb} {all : List Oper} {n0 : Nat} : ∀ {R : List TE} {s s' : St}, Chn P cb all n0 R s s' → (∀ e ∈ R, e.x.k = 0 ∨ (isSt e.x = true ∧ e.x.k = 3)) →
    s'.H.next = s.H.next ∧ ∀ c, (∀ R1 e R2 s1, R = R1 ++ e :: R2 → Chn P cb all n0 R1 s s1 → isSt e.x = true → ∃ q, stB e.x s1.env = some q ∧ c ≠ q ∧ q < 1000000000) → ∀ u, s'.H.get c = some u ↔ s.H.get c = some u
  | [], s, s', h, _ => by obtain rfl : s = s' := h; exact ⟨rfl, fun c _ u => Iff.rfl⟩
  | e :: R, s, s', h, hk => by
    obtain ⟨ht, h⟩ := h
    obtain ⟨h1, h2⟩ := chn_st h fun y hy => hk y (by simp [hy])
    have he : e.H2.next = s.H.next ∧ ∀ c, (isSt e.x = true → ∃ q, stB e.x s.env = some q ∧ c ≠ q ∧ q < 1000000000) → ∀ u, e.H2.get c = some u ↔ s.H.get c = some u := by
      rcases hk e (by simp) with hk0 | ⟨hs, hk3⟩
      · have : e.H2 = s.H := by
          cases hon : e.on with
          | false => exact (ht.off hon).2
          | true => exact (ht.on0 hon hk0).1
        rw [this]; exact ⟨rfl, fun c _ u => Iff.rfl⟩
      · obtain ⟨t, ad, y, g1, g2, g3⟩ := isSt_some hs
        have hon : e.on = true := by
          have := ht.want
          unfold wantC at this
          rw [g2] at this
          exact (Option.some.inj this).symm
        rcases ht.on3 hon hk3 with hr | ⟨f, args, hr, _⟩
        · obtain ⟨p, o', q1, q2⟩ := store_put g1 hr
          rw [q2]
          refine ⟨rfl, fun c hc u => ?_⟩
          obtain ⟨q, f1, f2, f3⟩ := hc hs
          have : p.1 = q := by
            unfold stB at f1
            rw [g1] at f1
            obtain ⟨v, f4, f5⟩ := obind_some f1
            obtain ⟨p', f6, f7⟩ := obind_some f5
            rw [f4] at q1
            have q1 : ptrOf v = some p := q1
            rw [f6] at q1
            rw [← Option.some.inj q1]
            exact Option.some.inj f7
          subst this
          exact put_iff f3 f2
        · exfalso
          unfold aop at hr
          rw [g1] at hr
          have hr : (ob ((gop ad).run s.env) fun v => ob (ptrOf v) fun p => ob ((gop y).run s.env) fun u => ho ((stT P t).run s.H p u)) = .call f args := hr
          unfold ob at hr
          cases hz1 : (gop ad).run s.env with
          | none => rw [hz1] at hr; simp at hr
          | some z1 =>
            rw [hz1] at hr
            simp only at hr
            cases hz2 : ptrOf z1 with
            | none => rw [hz2] at hr; simp at hr
            | some z2 =>
              rw [hz2] at hr
              simp only at hr
              cases hz3 : (gop y).run s.env with
              | none => rw [hz3] at hr; simp at hr
              | some z3 =>
                rw [hz3] at hr
                simp only at hr
                cases hz4 : (stT P t).run s.H z2 z3 <;> rw [hz4] at hr <;> simp [Go.Proofs.Ytlnjikneepgpaaa.Fast.ho] at hr
    refine ⟨h1.trans he.1, fun c hc u => ?_⟩
    refine (h2 c (fun R1 y R2 s1 hR hch hs => hc (e :: R1) y R2 s1 (by rw [hR]; rfl) ⟨ht, hch⟩ hs) u).trans (he.2 c (fun hs => hc [] e R s rfl rfl hs) u)

/-- the first of two orders, at a point at which nothing behind the common part is done but what looks at slots, is a point of the other -/
structure Two (P : Program) (cb : Cb) (ops : Array Oper) (n0 : Nat) (C T1 T2 : List TE) (env0 : Env) (s0 sC sE1 sE2 : St) (A B : It) : Prop where
  s1 : Stat P ops (C ++ T1) (some B.i) (some A.i)
  s2 : Stat P ops (C ++ T2) (some A.i) (some B.i)
  ne : A.i ≠ B.i
  c0 : Chn P cb ops.toList n0 C s0 sC
  c1 : Chn P cb ops.toList n0 T1 sC sE1
  c2 : Chn P cb ops.toList n0 T2 sC sE2
  last : C = [] ∨ ∃ p e, C = p ++ [e] ∧ e.x.k = 3
  /-- what is behind the common part -/
  k1 : ∀ e ∈ T1, e.x.k = 0 ∨ e.x.i = A.i ∨ e.x.i = B.i
  k2 : ∀ e ∈ T2, e.x.k ≠ 2 ∧ (e.x.k = 3 → e.x.i = A.i ∨ e.x.i = B.i)
  k3 : ∀ e ∈ T1, e.x.k ≠ 2
  /-- the same operations, with the same values -/
  same : ∀ e ∈ T2, ∃ y ∈ T1, y.x.i = e.x.i ∧ y.x.o = e.x.o ∧ (e.x.i ≠ A.i → e.x.i ≠ B.i → y.x.m = e.x.m) ∧ (∀ t, e.x.o.dst = some t → y.v = e.v)
  bC : ∀ e ∈ C, has (M ops.toList B.i) e.x.i = true
  aT : ∃ e ∈ T1, e.x.i = A.i ∧ e.x.k = 3
  bT : ∃ e ∈ T1, e.x.i = B.i ∧ e.x.k = 3

theorem prefix_cases {α : Type} : ∀ {a b c d : List α}, a ++ b = c ++ d → (∃ t, c = a ++ t ∧ b = t ++ d) ∨ (∃ t, a = c ++ t ∧ d = t ++ b) := by
  intro a b c d h
  rcases List.append_eq_append_iff.1 h with ⟨t, h1, h2⟩ | ⟨t, h1, h2⟩
  · exact .inl ⟨t, h1, h2⟩
  · exact .inr ⟨t, h1, h2⟩

section
variable {cb : Cb} {ops : Array Oper} {b : Base} {N n0 : Nat} {env0 : Env} {s0 sC sE1 sE2 : St} {C T1 T2 : List TE} {A B' : It} {L : Array Bool} {a : Act} {w : World} {pre R : List TE} {s : St} {σ : Sg} {envL : Env}

theorem Inv.swap (hT : Two P cb ops n0 C T1 T2 env0 s0 sC sE1 sE2 A B') (hI : Inv π B P cb ops b N n0 (C ++ T1) env0 s0 sE1 L a w pre R s σ envL) (hA : Ld L A.i = false) (hB : Ld L B'.i = false)
    (hm : ∀ j, has (M ops.toList B'.i) j = true → Ld L j = true) : Inv π B P cb ops b N n0 (C ++ T2) env0 s0 sE2 L a w C T2 sC σ envL := by
  have hC : ∀ e ∈ C, Ld L e.x.i = true := fun e he => hm _ (hT.bC e he)
  -- the common part is what is behind us
  have hpre : pre = C ∧ R = T1 := by
    rcases prefix_cases hI.eqn with ⟨t, h1, h2⟩ | ⟨t, h1, h2⟩
    · -- pre = C ++ t
      have ht : t = [] := by
        rcases hI.preA with h | ⟨p, e, h, hk⟩
        · rw [h1] at h; exact (List.append_eq_nil_iff.1 h).2
        · rcases List.eq_nil_or_concat t with ht | ⟨t', z, ht⟩
          · exact ht
          · exfalso
            have hz : z = e := by
              rw [h1, ht, List.concat_eq_append, ← List.append_assoc] at h
              have := List.append_inj_right' h rfl
              simpa using this
            have hzT : z ∈ T1 := by rw [h2, ht]; simp
            have hzd : Ld L z.x.i = true := hI.preD z (by rw [h1, ht]; simp)
            rcases hT.k1 z hzT with h3 | h3 | h3
            · rw [hz, hk] at h3; simp at h3
            · rw [h3, hA] at hzd; simp at hzd
            · rw [h3, hB] at hzd; simp at hzd
      subst ht
      simp at h1 h2
      exact ⟨h1, h2.symm⟩
    · -- C = pre ++ t
      have ht : t = [] := by
        rcases hT.last with h | ⟨p, e, h, hk⟩
        · rw [h1] at h; exact (List.append_eq_nil_iff.1 h).2
        · rcases List.eq_nil_or_concat t with ht | ⟨t', z, ht⟩
          · exact ht
          · exfalso
            have hz : z = e := by
              rw [h1, ht, List.concat_eq_append, ← List.append_assoc] at h
              have := List.append_inj_right' h rfl
              simpa using this
            have hzR : z ∈ R := by rw [h2, ht]; simp
            have hzC : z ∈ C := by rw [h1, ht]; simp
            exact hI.rAct z hzR (hC z hzC) (by rw [hz]; exact hk)
      subst ht
      simp at h1 h2
      exact ⟨h1.symm, h2⟩
  obtain ⟨rfl, rfl⟩ := hpre
  obtain rfl : s = sC := Chn.det hI.chP hT.c0
  have hX1 : Xof n0 L R = fun _ => none := by
    funext c
    cases hx : Xof n0 L R c with
    | none => rfl
    | some o => obtain ⟨y, h1, _, _, h2, _⟩ := Xof_some hx; exact absurd h2 (hT.k3 y h1)
  have hX2 : Xof n0 L T2 = fun _ => none := by
    funext c
    cases hx : Xof n0 L T2 c with
    | none => rfl
    | some o => obtain ⟨y, h1, _, _, h2, _⟩ := Xof_some hx; exact absurd h2 (hT.k2 y h1).1
  have hrel := hI.rel
  have hext := hI.ext
  rw [hX1] at hrel hext
  refine ⟨rfl, hT.c2, hI.spec, hI.hs, hI.nxt, hI.size, hI.preD, fun e he hl hk => ?_, fun e he hl j hj => ?_, hI.env, ⟨fun e he t ht => ?_, fun t ht => ?_⟩, by rw [hX2]; exact hrel, hI.dom, hI.base, fun e he => ?_, fun e he => ?_, fun e he hl => ?_,
    by rw [hX2]; exact hext, hI.bn, hI.nx, hI.tm, hI.df, hT.c0, hI.preA⟩
  · rcases (hT.k2 e he).2 hk with h | h
    · rw [h, hA] at hl; simp at hl
    · rw [h, hB] at hl; simp at hl
  · rcases List.mem_append.1 he with he | he
    · exact hI.clo e (List.mem_append_left _ he) hl j hj
    · obtain ⟨y, h1, h2, _, h3, _⟩ := hT.same e he
      have nA : e.x.i ≠ A.i := fun h => by rw [h, hA] at hl; simp at hl
      have nB : e.x.i ≠ B'.i := fun h => by rw [h, hB] at hl; simp at hl
      exact hI.clo y (List.mem_append_right _ h1) (by rw [h2]; exact hl) j (by rw [h3 nA nB]; exact hj)
  · obtain ⟨he, hl⟩ := he
    rcases List.mem_append.1 he with he | he
    · exact hI.specL.w e ⟨List.mem_append_left _ he, hl⟩ t ht
    · obtain ⟨y, h1, h2, h3, _, h4⟩ := hT.same e he
      rw [hI.specL.w y ⟨List.mem_append_right _ h1, by rw [h2]; exact hl⟩ t (by rw [h3]; exact ht), h4 t ht]
  · refine hI.specL.n t fun e he hd => ?_
    obtain ⟨he, hl⟩ := he
    rcases List.mem_append.1 he with he | he
    · exact ht e ⟨List.mem_append_left _ he, hl⟩ hd
    · -- its twin in the other order
      obtain ⟨z, hz, hzi⟩ := hT.s2.all e.x.i (hT.s1.lt (List.mem_append_right _ he))
      have hzo : z.x.o = e.x.o := by
        have h1 := (hT.s2.mem z hz).1
        have h2 := (hT.s1.mem e (List.mem_append_right _ he)).1
        rw [hzi, h2] at h1
        exact (Option.some.inj h1).symm
      exact ht z ⟨hz, by rw [hzi]; exact hl⟩ (by rw [hzo]; exact hd)
  · rcases List.mem_append.1 he with he | he
    · exact hI.res e (List.mem_append_left _ he)
    · obtain ⟨y, h1, h2, _⟩ := hT.same e he
      rw [← h2]; exact hI.res y (List.mem_append_right _ h1)
  · obtain ⟨y, h1, h2, _⟩ := hT.same e he
    rw [← h2]; exact hI.unk y h1
  · obtain ⟨y, h1, h2, _⟩ := hT.same e he
    rw [← h2] at hl ⊢; exact hI.sn y h1 hl

theorem Inv.two (hπ : ∀ i, (π i).oneCell' = true) (hcb : CbOk π B P cb) (hok : ∀ o ∈ ops.toList, (Option.rec true (fun d => Nat.blt d N) o.dst : Bool) = true) (hT : Two P cb ops n0 C T1 T2 env0 s0 sC sE1 sE2 A B') {Q : Exit → Act → World → Prop}
    (hQ1 : ∀ a w, Done π B b N .normal sE1.env sE1.H .normal a w → Q .normal a w) (hQ2 : ∀ a w, Done π B b N .normal sE2.env sE2.H .normal a w → Q .normal a w) : ∀ (fuel : Nat) (L : Array Bool) (a : Act) (w : World) (pre R : List TE) (s : St) (σ : Sg) (envL : Env),
    Inv π B P cb ops b N n0 (C ++ T1) env0 s0 sE1 L a w pre R s σ envL → (Ld L A.i = false → Ld L B'.i = false) → cnt L.toList ≤ fuel → wpAny P .any ops Q fuel L a w
  | 0, L, a, w, pre, R, s, σ, envL, hI, _, hc => let ⟨h1, h2⟩ := all_done hI hT.s1 (by omega); ⟨h1, hQ1 _ _ (hI.fin hT.s1 h2)⟩
  | fuel + 1, L, a, w, pre, R, s, σ, envL, hI, hx, hc => by
    refine ⟨fun h => hQ1 _ _ (hI.fin hT.s1 (hI.ready hT.s1 h)), fun i hi => ?_⟩
    cases hA : Ld L A.i with
    | true =>
      refine hI.step hπ hcb hok hT.s1 hi (fun _ q hq => by obtain rfl := Option.some.inj hq; exact hA) fun a' w' pre' R' s' σ' envL' hI' => ?_
      exact Inv.two hπ hcb hok hT hQ1 hQ2 fuel _ a' w' pre' R' s' σ' envL' hI' (fun h => by rw [Ld_keep hI hi hA] at h; simp at h) (cnt_step hI hi hc)
    | false =>
      have hB := hx hA
      by_cases hiB : i = B'.i
      · subst hiB
        have hm : ∀ j, has (M ops.toList B'.i) j = true → Ld L j = true := fun j hj => by
          obtain ⟨_, _, o, ho, hed⟩ := (ready_mem hI.size).1 hi
          obtain ⟨d, h1, h2, h3⟩ := M_bit (by rw [Array.getElem?_toList]; exact ho) hj
          have h4 := hed d h1 h2
          rcases h3 with rfl | h3
          · exact h4
          · obtain ⟨e, he, hei⟩ := hT.s1.all B'.i ((ready_mem hI.size).1 hi).1
            obtain ⟨y, hy, hyi⟩ := hT.s1.all d.on (by
              refine hT.s1.bnd e he _ ?_
              rw [(hT.s1.mem e he).2.1, hei]; exact ML_edge (M_edge (by rw [Array.getElem?_toList]; exact ho) h1 h2))
            refine hI.clo y hy (by rw [hyi]; exact h4) j ?_
            rw [(hT.s1.mem y hy).2.1, hyi]; exact ML_edge h3
        have hI2 := hI.swap hT hA hB hm
        refine hI2.step hπ hcb hok hT.s2 hi (fun h => absurd (Option.some.inj h) hT.ne) fun a' w' pre' R' s' σ' envL' hI' => ?_
        refine Inv.any hπ hcb hok hT.s2 hQ2 fuel _ a' w' pre' R' s' σ' envL' hI' (fun q hq => ?_) (cnt_step hI2 hi hc)
        obtain rfl := Option.some.inj hq
        exact (Ld_set (by rw [hI.size]; exact ((ready_mem hI.size).1 hi).1)).2 (.inl rfl)
      · refine hI.step hπ hcb hok hT.s1 hi (fun h => absurd (Option.some.inj h).symm hiB) fun a' w' pre' R' s' σ' envL' hI' => ?_
        refine Inv.two hπ hcb hok hT hQ1 hQ2 fuel _ a' w' pre' R' s' σ' envL' hI' (fun _ => ?_) (cnt_step hI hi hc)
        cases h : Ld (L.setIfInBounds i true) B'.i with
        | false => rfl
        | true =>
          rcases (Ld_set (by rw [hI.size]; exact ((ready_mem hI.size).1 hi).1)).1 h with h | h
          · exact absurd h.symm hiB
          · rw [hB] at h; simp at h
end

theorem map_split {α β : Type} (f : α → β) : ∀ (l1 : List α) (e : α) (l2 : List α), (l1 ++ e :: l2).map f = l1.map f ++ f e :: l2.map f := fun l1 e l2 => by simp

theorem okOrd_split : ∀ {l1 : List It} {x : It} {l2 : List It}, okOrd (l1 ++ x :: l2) = true → has x.m x.i = false ∧ ∀ y ∈ l2, x.i ≠ y.i ∧ has x.m y.i = false ∧ (y.k = 3 → has y.m x.i = true)
  | [], x, l2, h => by
    obtain ⟨h1, h2⟩ := band_true (show band (bnot (has x.m x.i)) (band (okOrd l2) (alls (fun y => band (bnot (Nat.beq x.i y.i)) (band (bnot (has x.m y.i)) (bor (bnot (isAct y)) (has y.m x.i)))) l2)) = true from h)
    obtain ⟨_, h3⟩ := band_true h2
    rw [bnot_eq] at h1
    refine ⟨by simpa using h1, fun y hy => ?_⟩
    obtain ⟨g1, g2⟩ := band_true (alls_mem h3 y hy)
    obtain ⟨g3, g4⟩ := band_true g2
    rw [bnot_eq] at g1 g3
    refine ⟨fun e => by rw [e] at g1; simp at g1, by simpa using g3, fun hk => ?_⟩
    rcases bor_true g4 with g | g
    · rw [bnot_eq, isAct_iff.2 hk] at g; simp at g
    · exact g
  | z :: l1, x, l2, h => by
    obtain ⟨_, h2⟩ := band_true (show band (bnot (has z.m z.i)) (band (okOrd (l1 ++ x :: l2)) (alls (fun y => band (bnot (Nat.beq z.i y.i)) (band (bnot (has z.m y.i)) (bor (bnot (isAct y)) (has y.m z.i)))) (l1 ++ x :: l2))) = true from h)
    exact okOrd_split (band_true h2).1

theorem opsOk_mem {N : Nat} : ∀ {l : List Oper}, opsOk N l = true → ∀ o ∈ l, (Option.rec true (fun d => Nat.blt d N) o.dst : Bool) = true
  | [], _, o, h => by simp at h
  | x :: l, h, o, ho => by
    obtain ⟨h1, h2⟩ := opsOk_cons h
    rcases List.mem_cons.1 ho with rfl | ho
    · exact h1
    · exact opsOk_mem h2 o ho

theorem cnt_rep (n : Nat) : cnt (Array.replicate n false).toList ≤ n := by
  have := cnt_le (Array.replicate n false).toList
  simpa using this

theorem lastTwo_some : ∀ {l acts : List It} {A B : It}, lastTwo l = some (acts, A, B) → l = acts ++ [A, B]
  | [], _, _, _, h => absurd (show none = some _ from h) (by simp)
  | [a], _, _, _, h => absurd (show none = some _ from h) (by simp)
  | [a, b], _, _, _, h => by
    obtain ⟨rfl, h2⟩ := Prod.mk.inj (Option.some.inj (show some (([] : List It), a, b) = some _ from h))
    obtain ⟨rfl, rfl⟩ := Prod.mk.inj h2
    rfl
  | a :: b :: c :: t, acts, A, B, h => by
    obtain ⟨q, h1, h2⟩ := obind_some (show obind (lastTwo (b :: c :: t)) (fun q => some (a :: q.1, q.2.1, q.2.2)) = some (acts, A, B) from h)
    obtain ⟨rfl, h3⟩ := Prod.mk.inj (Option.some.inj h2)
    obtain ⟨rfl, rfl⟩ := Prod.mk.inj h3
    rw [lastTwo_some (show lastTwo (b :: c :: t) = some (q.1, q.2.1, q.2.2) from h1)]
    rfl

theorem place_mem {x : It} : ∀ {acts left : List It}, (x ∈ (place acts left).1 ∨ x ∈ (place acts left).2) ↔ (x ∈ acts ∨ x ∈ left)
  | [], left => by show (x ∈ [] ∨ x ∈ left) ↔ _; simp
  | a :: acts, left => by
    have ih := place_mem (x := x) (acts := acts) (left := filt (fun x => bnot (has a.m x.i)) left)
    show (x ∈ app (filt (fun x => has a.m x.i) left) (a :: (place acts (filt (fun x => bnot (has a.m x.i)) left)).1) ∨ x ∈ (place acts (filt (fun x => bnot (has a.m x.i)) left)).2) ↔ _
    rw [app_eq, List.mem_append, List.mem_cons, filt_mem, List.mem_cons]
    rw [filt_mem] at ih
    constructor
    · rintro ((⟨h, _⟩ | rfl | h) | h)
      · exact .inr h
      · exact .inl (.inl rfl)
      · rcases ih.1 (.inl h) with h | ⟨h, _⟩
        · exact .inl (.inr h)
        · exact .inr h
      · rcases ih.1 (.inr h) with h | ⟨h, _⟩
        · exact .inl (.inr h)
        · exact .inr h
    · rintro ((rfl | h) | h)
      · exact .inl (.inr (.inl rfl))
      · rcases ih.2 (.inl h) with h | h
        · exact .inl (.inr (.inr h))
        · exact .inr h
      · cases hh : has a.m x.i with
        | true => exact .inl (.inl ⟨h, rfl⟩)
        | false =>
          rcases ih.2 (.inr ⟨h, by rw [hh]; rfl⟩) with h | h
          · exact .inl (.inr (.inr h))
          · exact .inr h

theorem place_left {x : It} : ∀ {acts left : List It}, x ∈ (place acts left).2 → x ∈ left
  | [], _, h => h
  | a :: acts, left, h => (filt_mem.1 (place_left (acts := acts) (left := filt (fun x => bnot (has a.m x.i)) left) h)).1

theorem lastAct_some : ∀ {l : List It}, lastAct l = true → l = [] ∨ ∃ p e, l = p ++ [e] ∧ isAct e = true
  | [], _ => .inl rfl
  | [a], h => .inr ⟨[], a, rfl, h⟩
  | a :: b :: t, h => by
    rcases lastAct_some (show lastAct (b :: t) = true from h) with h | ⟨p, e, h1, h2⟩
    · simp at h
    · exact .inr ⟨a :: p, e, by rw [h1]; rfl, h2⟩

theorem two_some {A B : It} {T : List It} {r1 r2 : R} {x : Ex} {env' : Env} {H' : Heap} (h : two A B T r1 r2 = .ok x env' H') : x = .normal ∧ r1 = .ok .normal env' H' ∧ ∃ e2 H2, r2 = .ok .normal e2 H2 ∧ twoOk A B T env' H' e2 H2 = true := by
  unfold two at h
  split at h
  · rename_i e1 H1 e2 H2
    cases hb : twoOk A B T e1 H1 e2 H2 with
    | false => rw [hb] at h; exact absurd (show R.no [30] = _ from h) (by simp)
    | true =>
      rw [hb] at h
      obtain ⟨rfl, rfl, rfl⟩ := R.ok.inj (show R.ok .normal e1 H1 = R.ok x env' H' from h)
      exact ⟨rfl, rfl, e2, H2, rfl, hb⟩
  · simp at h
  · simp at h
  · simp at h

theorem stat_of {ops : Array Oper} {es : List TE} {l : List It} {la ea : Option Nat} (hes : es.map (·.x) = l) (hI : ∀ x ∈ l, ops.toList[x.i]? = some x.o ∧ x.m = ML ops.toList la ea x.i ∧ x.k = kindO P x.o) (hall : ∀ i, i < ops.size → ∃ x ∈ l, x.i = i)
    (hpair : okAll ops.toList l = true) (hor : okOrd l = true) (hbd : okMasks (len ops.toList) l = true) : Stat P ops es la ea := by
  have hm : ∀ e ∈ es, e.x ∈ l := fun e he => by rw [← hes]; exact List.mem_map.2 ⟨e, he, rfl⟩
  refine ⟨fun e he => hI _ (hm e he), fun i hi => ?_, fun e he y hy => ?_, fun l1 e l2 hl => ?_, fun e he j hj => ?_⟩
  · obtain ⟨x, h1, h2⟩ := hall i hi
    rw [← hes] at h1
    obtain ⟨e, he, h3⟩ := List.mem_map.1 h1
    exact ⟨e, he, by rw [h3]; exact h2⟩
  · exact alls_mem (alls_mem hpair _ (hm e he)) _ (hm y hy)
  · rw [← hes, hl, map_split] at hor
    obtain ⟨h1, h2⟩ := okOrd_split hor
    exact ⟨h1, fun y hy => h2 y.x (List.mem_map.2 ⟨y, hy, rfl⟩)⟩
  · have h1 := blt_lt (alls_mem hbd _ (hm e he))
    rw [len_eq, Array.length_toList] at h1
    have h1 : e.x.m < 2 ^ ops.size := h1
    rcases Nat.lt_or_ge j ops.size with h2 | h2
    · exact h2
    · have h3 : Nat.testBit e.x.m j = false := Nat.testBit_lt_two_pow (Nat.lt_of_lt_of_le h1 (Nat.pow_le_pow_right (by decide) h2))
      rw [show has e.x.m j = Nat.testBit e.x.m j from rfl, h3] at hj; simp at hj

/-- at the region's begin -/
theorem Inv.start {cb : Cb} {ops : Array Oper} {b : Base} {N n0 : Nat} {bl : Tr Obj} {es : List TE} {sEnd : St} {σ : Sg} {env : Env} {a : Act} {w : World} {la ea : Option Nat} (hS : Stat P ops es la ea) (hA : At π B b N σ env ⟨bl, n0⟩ a w) (hb : n0 + len ops.toList ≤ BIG)
    (hc : Chn P cb ops.toList n0 es ⟨[], env, ⟨bl, n0 + len ops.toList⟩, [⟨bl, n0 + len ops.toList⟩]⟩ sEnd) :
    Inv π B P cb ops b N n0 es env ⟨[], env, ⟨bl, n0 + len ops.toList⟩, [⟨bl, n0 + len ops.toList⟩]⟩ sEnd (Array.replicate ops.size false) a { w with drawn := w.drawn + 1 } [] es ⟨[], env, ⟨bl, n0 + len ops.toList⟩, [⟨bl, n0 + len ops.toList⟩]⟩ σ env ∧ (∀ i, Ld (Array.replicate ops.size false) i = false) := by
  have hn : len ops.toList = ops.size := by rw [len_eq, Array.length_toList]
  have hLd : ∀ i, Ld (Array.replicate ops.size false) i = false := fun i => by
    unfold Ld
    rw [Array.getD_eq_getD_getElem?, Array.getElem?_replicate]
    split <;> rfl
  have hX : Xof n0 (Array.replicate ops.size false) es = fun _ => none := by
    funext c
    cases hx : Xof n0 (Array.replicate ops.size false) es c with
    | none => rfl
    | some o =>
      obtain ⟨y, _, h1, _⟩ := Xof_some hx
      rw [hLd] at h1; simp at h1
  have hkn : ovl (Xof n0 (Array.replicate ops.size false) es) (⟨bl, n0 + len ops.toList⟩ : Heap).know = (⟨bl, n0⟩ : Heap).know := by
    funext c; rw [hX]; exact ovl_k rfl
  have hun : ∀ c, n0 ≤ c → (⟨bl, n0⟩ : Heap).know c = none := fun c hc => by
    cases hx : (⟨bl, n0⟩ : Heap).know c with
    | none => rfl
    | some o =>
      obtain ⟨Lc, h1, _⟩ := hA.sr.rel.obj c o hx
      rw [hA.sr.dom c hc] at h1; simp at h1
  refine ⟨⟨rfl, hc, ⟨fun e he => by simp at he, fun t _ => rfl⟩, ⟨[], rfl⟩, hb, by simp, fun e he => by simp at he, fun e _ hl => ?_, fun e _ hl => ?_, hA.env, ⟨fun e he => ?_, fun t _ => rfl⟩, ?_, fun c hc => hA.sr.dom c ?_, hA.sr.base, fun e he => ?_, fun e _ => ?_, fun e _ _ => hA.sr.dom _ (Nat.le_add_right _ _), ?_, hA.nx.nx, ?_, hA.tm, hA.df, rfl, .inl rfl⟩, hLd⟩
  · rw [hLd] at hl; simp at hl
  · rw [hLd] at hl; simp at hl
  · have := he.2; rw [hLd] at this; simp at this
  · rw [hkn]; exact hA.sr.rel.same rfl
  · exact Nat.le_trans (Nat.le_add_right _ _) hc
  · have := hS.lt he
    show n0 + e.x.i < n0 + len ops.toList
    omega
  · exact hun _ (Nat.le_add_right _ _)
  · rw [hkn]
    exact ⟨hA.ext.sg, hA.ext.os, hA.ext.tape, hA.ext.output, hA.ext.size, hA.ext.frame, hA.ext.img⟩
  · exact ⟨Nat.le_trans hA.nx.nx (Nat.le_add_right _ _), hA.nx.keep, hA.nx.kn⟩

theorem objEq_eq {a b : Obj} (h : objEq a b = true) : a = b := by
  unfold objEq at h
  split at h
  · obtain ⟨h1, h⟩ := band_true h
    obtain ⟨h2, h⟩ := band_true h
    obtain ⟨h3, h4⟩ := band_true h
    rw [aeqL_eq h1, Nat.eq_of_beq_eq_true h2, Nat.eq_of_beq_eq_true h3, Nat.eq_of_beq_eq_true h4]
  · simp at h

theorem optEq_some {a b : Option Obj} (h : optEq a b = true) : ∃ o, a = some o ∧ b = some o := by
  unfold optEq at h
  split at h
  · exact ⟨_, rfl, by rw [objEq_eq h]⟩
  · simp at h

theorem slotEq_some {e1 e2 : Env} {d : Nat} (h : slotEq e1 e2 d = true) : ∃ v, e1.get d = some v ∧ e2.get d = some v := by
  unfold slotEq at h
  split at h
  · rename_i u v h1 h2
    exact ⟨u, h1, by rw [h2, aeq_eq h]⟩
  · simp at h

theorem gp_some {t : Nat} {v u : AV} (h : gp t v = some u) : u = v := by
  rcases get_set 3 t t Env.emp v u h with ⟨_, h⟩ | ⟨h, _⟩
  · exact h
  · exact absurd rfl h

/-- less is known, the slots are the same -/
theorem Done.conv {b : Base} {N : Nat} {env env' : Env} {H H' : Heap} (he : ∀ t v, env'.get t = some v → env.get t = some v) (hk : ∀ c o, H'.know c = some o → H.know c = some o) (hn : H'.next = H.next) {a : Act} {w : World}
    (h : Done π B b N .normal env H .normal a w) : Done π B b N .normal env' H' .normal a w := by
  obtain ⟨σ, hx, hA⟩ := h
  refine ⟨σ, hx, fun t v hv => hA.env t v (he t v hv), ⟨hA.sr.rel.less hk, fun c hc => hA.sr.dom c (hn ▸ hc), hA.sr.base⟩, hA.ext.less hk, ⟨hn ▸ hA.nx.nx, hA.nx.keep, fun c o hc ho => hA.nx.kn c o hc (hk c o ho)⟩, hA.tm, hA.df⟩

/-- a store's block, from its own time on -/
theorem stB_end {cb : Cb} {ops : Array Oper} {n0 : Nat} {es : List TE} {la ea : Option Nat} {env0 : Env} {s0 s1 sE : St} (hS : Stat P ops es la ea) {l1 : List TE} {e : TE} {l2 : List TE} (hl : es = l1 ++ e :: l2) (hs0 : SpecE env0 (fun _ => False) s0.env)
    (h1 : Chn P cb ops.toList n0 l1 s0 s1) (hE : Chn P cb ops.toList n0 es s0 sE) (hd : e.x.o.dst = none) (hw : ∀ y ∈ l2, y.x.o.dst = none ∨ has y.x.m e.x.i = false) (hgd : e.x.o.guard = none) {q : Nat} : stB e.x s1.env = some q ↔ stB e.x sE.env = some q := by
  have a1 := chn_env hS (R2 := e :: l2) (pre := []) (by simpa using hl) h1 (hs0.congr fun y => by simp)
  have a2 := chn_env hS (R2 := []) (pre := []) (by simp) hE (hs0.congr fun y => by simp)
  have he : e ∈ es := by rw [hl]; simp
  have key : ∀ t ∈ looks ops.toList e.x.o, s1.env.get t = sE.env.get t := fun t ht => by
    by_cases hy : ∃ y ∈ es, y.x.o.dst = some t
    · obtain ⟨y, hy, hyt⟩ := hy
      rw [a2.w y (by simpa using hy) t hyt]
      have hy2 := hy
      rw [hl] at hy2
      rcases List.mem_append.1 hy2 with hy2 | hy2
      · exact a1.w y (by simpa using hy2) t hyt
      · rcases List.mem_cons.1 hy2 with rfl | hy2
        · rw [hd] at hyt; simp at hyt
        · obtain ⟨g1, g2, _⟩ := (hS.ord l1 e l2 hl).2 y hy2
          rcases hS.look he hy g1 hyt ht with g | g
          · rw [g2] at g; simp at g
          · rcases hw y hy2 with h | h
            · rw [h] at hyt; simp at hyt
            · rw [h] at g; simp at g
    · rw [a2.n t fun y hy2 hyt => hy ⟨y, by simpa using hy2, hyt⟩, a1.n t fun y hy2 hyt => hy ⟨y, by rw [hl]; simp at hy2; simp [hy2], hyt⟩]
  unfold stB
  split
  · rename_i t ad v ho
    have hg : (gop ad).run s1.env = (gop ad).run sE.env := by
      cases ad with
      | tmp d =>
        refine key d ?_
        unfold looks
        rw [hgd]
        rw [ho]
        show d ∈ d :: tmpsOf [v]
        simp
      | _ => rfl
    rw [hg]
  · simp

theorem draw2_ok (hπ : ∀ i, (π i).oneCell' = true) {cb : Cb} (hcb : CbOk π B P cb) (hm : P.follows .mixedOrders = true) {id : Nat} {ops : Array Oper} {b : Base} {N : Nat} {x : Ex} {env env' : Env} {H H' : Heap} {σ : Sg} {a : Act} {w : World}
    (hok : opsOk N ops.toList = true) (hA : At π B b N σ env H a w) (h : (drawC2 P ops.toList).run cb env H = .ok x env' H') : (Code.region id ops true).wp P (Done π B b N x env' H') a w := by
  unfold drawC2 at h
  dsimp only at h
  generalize hits : items P (masks ops.toList []) ops.toList 0 = its at h
  split at h
  · exact absurd (show R.no [28] = R.ok x env' H' from h) (by simp)
  · rename_i acts A B hl
    have hl := lastTwo_some hl
    generalize hpl : place acts (filt (fun x => bnot (isAct x)) its) = CU at h
    obtain ⟨C, U⟩ := CU
    dsimp only at h
    generalize hT1 : order [A, orM B A] U = T1 at h
    generalize hT2 : order [B, orM A B] U = T2 at h
    cases hc : okTwo ops.toList A B C U T1 T2 with
    | false => rw [hc] at h; exact absurd (show R.no [34] = R.ok x env' H' from h) (by simp)
    | true =>
      rw [hc] at h
      obtain ⟨c1, hc⟩ := band_true hc
      obtain ⟨stA, stB'⟩ := band_true c1
      obtain ⟨hU, hc⟩ := band_true hc
      obtain ⟨hlast, hc⟩ := band_true hc
      obtain ⟨p1, hc⟩ := band_true hc
      obtain ⟨p2, hc⟩ := band_true hc
      obtain ⟨o1, hc⟩ := band_true hc
      obtain ⟨o2, hc⟩ := band_true hc
      obtain ⟨b1, b2⟩ := band_true hc
      have hI : ∀ y ∈ its, ops.toList[y.i]? = some y.o ∧ y.m = M ops.toList y.i ∧ y.k = kindO P y.o := fun y hy => by
        rw [← hits, items_mem] at hy
        obtain ⟨j, o, h1, rfl⟩ := hy
        exact ⟨by simpa using h1, rfl, rfl⟩
      have hCU : ∀ y, (y ∈ C ∨ y ∈ U) ↔ (y ∈ acts ∨ y ∈ filt (fun x => bnot (isAct x)) its) := fun y => by
        have := place_mem (x := y) (acts := acts) (left := filt (fun x => bnot (isAct x)) its)
        rw [hpl] at this; exact this
      have hact : ∀ y, y ∈ its ∧ isAct y = true ↔ y ∈ acts ∨ y = A ∨ y = B := fun y => by
        rw [← filt_mem, hl]; simp
      have hAi : A ∈ its ∧ isAct A = true := (hact A).2 (.inr (.inl rfl))
      have hBi : B ∈ its ∧ isAct B = true := (hact B).2 (.inr (.inr rfl))
      have hUi : ∀ y ∈ U, y ∈ its := fun y hy => by
        have : y ∈ filt (fun x => bnot (isAct x)) its := place_left (acts := acts) (by rw [hpl]; exact hy)
        exact (filt_mem.1 this).1
      have hCi : ∀ y ∈ C, y ∈ its := fun y hy => by
        rcases (hCU y).1 (.inl hy) with h | h
        · exact ((hact y).2 (.inl h)).1
        · exact (filt_mem.1 h).1
      have hUk : ∀ y ∈ U, y.k = 0 ∧ has y.m A.i = false ∧ has y.m B.i = false := fun y hy => by
        obtain ⟨h1, h2⟩ := band_true (alls_mem hU y hy)
        obtain ⟨h3, h4⟩ := band_true h2
        rw [bnot_eq] at h3 h4
        exact ⟨Nat.eq_of_beq_eq_true h1, by simpa using h3, by simpa using h4⟩
      have kA : A.k = 3 := isAct_iff.1 hAi.2
      have kB : B.k = 3 := isAct_iff.1 hBi.2
      have hT1m : ∀ y, y ∈ T1 ↔ y = A ∨ y = orM B A ∨ y ∈ U := fun y => by rw [← hT1, order_mem]; simp [or_assoc]
      have hT2m : ∀ y, y ∈ T2 ↔ y = B ∨ y = orM A B ∨ y ∈ U := fun y => by rw [← hT2, order_mem]; simp [or_assoc]
      -- numbers apart
      have e1 : T1 = filt (fun x => has A.m x.i) U ++ A :: order [orM B A] (filt (fun x => bnot (has A.m x.i)) U) := by rw [← hT1, ← app_eq]; rfl
      have e2 : T2 = filt (fun x => has B.m x.i) U ++ B :: order [orM A B] (filt (fun x => bnot (has B.m x.i)) U) := by rw [← hT2, ← app_eq]; rfl
      rw [app_eq] at p1 p2 o1 o2 b1 b2
      have ne : A.i ≠ B.i := by
        rw [e1, ← List.append_assoc] at o1
        exact ((okOrd_split o1).2 (orM B A) (by rw [order_mem]; simp)).1
      have sameIt : ∀ y ∈ its, ∀ z ∈ its, y.i = z.i → y.k = z.k := fun y hy z hz h => by
        have h1 := (hI y hy).1
        rw [h, (hI z hz).1] at h1
        rw [(hI y hy).2.2, (hI z hz).2.2, Option.some.inj h1]
      have uA : ∀ y ∈ U, y.i ≠ A.i ∧ y.i ≠ B.i := fun y hy => by
        refine ⟨fun h => ?_, fun h => ?_⟩
        · have := sameIt y (hUi y hy) A hAi.1 h; rw [(hUk y hy).1, kA] at this; simp at this
        · have := sameIt y (hUi y hy) B hBi.1 h; rw [(hUk y hy).1, kB] at this; simp at this
      have cN : ∀ y ∈ C, y.i ≠ A.i ∧ y.i ≠ B.i ∧ has B.m y.i = true := fun y hy => by
        obtain ⟨l1, l2, hl12⟩ := List.append_of_mem hy
        have q1 : okOrd (l1 ++ y :: (l2 ++ T1)) = true := by rw [hl12] at o1; simpa using o1
        have q2 : okOrd (l1 ++ y :: (l2 ++ T2)) = true := by rw [hl12] at o2; simpa using o2
        have r1 := (okOrd_split q1).2 A (List.mem_append_right _ ((hT1m A).2 (.inl rfl)))
        have r2 := (okOrd_split q2).2 B (List.mem_append_right _ ((hT2m B).2 (.inl rfl)))
        exact ⟨r1.1, r2.1, r2.2.2 kB⟩
      have ml : ∀ (la ea : Nat) (y : It), y ∈ its → y.i ≠ la → y.m = ML ops.toList (some la) (some ea) y.i := fun la ea y hy hne => by
        show _ = if y.i = la then _ else _
        rw [if_neg hne]; exact (hI y hy).2.1
      have mor : ∀ (y z : It), y ∈ its → z ∈ its → (orM y z).m = ML ops.toList (some y.i) (some z.i) (orM y z).i := fun y z hy hz => by
        show Nat.lor y.m (Nat.lor (Nat.pow 2 z.i) z.m) = if y.i = y.i then _ else _
        rw [if_pos rfl, (hI y hy).2.1, (hI z hz).2.1]; rfl
      have hall : ∀ (T : List It), (∀ y, y = A ∨ y = B ∨ y ∈ U → ∃ z ∈ T, z.i = y.i) → ∀ i, i < ops.size → ∃ z ∈ C ++ T, z.i = i := fun T hT i hi => by
        have h1 : (⟨0 + i, kindO P ops[i], Option.rec 0 (fun m => m) (nth (masks ops.toList []) (0 + i)), ops[i]⟩ : It) ∈ its := by
          rw [← hits, items_mem]
          exact ⟨i, ops[i], by simp [hi], rfl⟩
        generalize hq : (⟨0 + i, kindO P ops[i], Option.rec 0 (fun m => m) (nth (masks ops.toList []) (0 + i)), ops[i]⟩ : It) = q at h1
        have hqi : q.i = i := by rw [← hq]; simp
        have : q ∈ C ∨ q = A ∨ q = B ∨ q ∈ U := by
          cases ha : isAct q with
          | true =>
            rcases (hact q).1 ⟨h1, ha⟩ with h | h | h
            · rcases (hCU q).2 (.inl h) with h | h
              · exact .inl h
              · exact .inr (.inr (.inr h))
            · exact .inr (.inl h)
            · exact .inr (.inr (.inl h))
          | false =>
            rcases (hCU q).2 (.inr (filt_mem.2 ⟨h1, by rw [ha]; rfl⟩)) with h | h
            · exact .inl h
            · exact .inr (.inr (.inr h))
        rcases this with h | h
        · exact ⟨q, List.mem_append_left _ h, hqi⟩
        · obtain ⟨z, hz, hzi⟩ := hT q h
          exact ⟨z, List.mem_append_right _ hz, hzi.trans hqi⟩
      -- the run
      obtain ⟨bl, n0⟩ := H
      have h : (Bool.rec (.no [29]) ((drawLK P ops.toList (endTwo A B T1 (drawL P ops.toList T1 (filt isAct C)).run (drawL P ops.toList T2 (filt isAct C)).run) C []).run cb n0 env ⟨bl, n0 + len ops.toList⟩ [⟨bl, n0 + len ops.toList⟩]) (Nat.ble (n0 + len ops.toList) BIG) : R) = .ok x env' H' := h
      cases hb : Nat.ble (n0 + len ops.toList) BIG with
      | false => rw [hb] at h; exact absurd (show R.no [29] = R.ok x env' H' from h) (by simp)
      | true =>
        rw [hb] at h
        have hbig := Nat.le_of_ble_eq_true hb
        have hk3 : ∀ y ∈ its, y.k ≤ 3 := fun y hy => by rw [(hI y hy).2.2]; exact kindO_le _
        generalize hs0 : (⟨[], env, ⟨bl, n0 + len ops.toList⟩, [⟨bl, n0 + len ops.toList⟩]⟩ : St) = s0
        obtain ⟨esC, sC, g1, g2, g3, g4⟩ := draw_trK (P := P) (cb := cb) (all := ops.toList) (n0 := n0) (fin := endTwo A B T1 (drawL P ops.toList T1 (filt isAct C)).run (drawL P ops.toList T2 (filt isAct C)).run) C s0 (fun y hy => hk3 y (hCi y hy)) (by rw [← hs0]; exact hbig) (by rw [← hs0]; exact h)
        obtain ⟨rfl, r1, e2', H2, r2, htwo⟩ := two_some g4
        have hacts : sC.acts = filt isAct C := by
          obtain ⟨l, _, q2, _⟩ := chn_hs g2
          rw [q2, ← hs0, ← g1]
          have hf : ∀ (p : It → Bool) (q : List It), filt p q = q.filter p := fun p q => by
            induction q with
            | nil => rfl
            | cons a q ih =>
              show (Bool.rec (filt p q) (a :: filt p q) (p a) : List It) = _
              cases h : p a <;> simp [h, ih]
          rw [hf, List.filter_map]
          rfl
        rw [← hacts] at r1 r2
        obtain ⟨_, es1, sE1, t1, t2, rfl, rfl, _⟩ := draw_tr T1 sC (fun y hy => by
          rcases (hT1m y).1 hy with rfl | rfl | hy
          · omega
          · show B.k ≤ 3; omega
          · rw [(hUk y hy).1]; omega) g3 r1
        obtain ⟨_, es2, sE2, u1, u2, rfl, rfl, _⟩ := draw_tr T2 sC (fun y hy => by
          rcases (hT2m y).1 hy with rfl | rfl | hy
          · omega
          · show A.k ≤ 3; omega
          · rw [(hUk y hy).1]; omega) g3 r2
        have hS1 : Stat P ops (esC ++ es1) (some B.i) (some A.i) := stat_of (l := C ++ T1) (by rw [List.map_append, g1, t1]) (fun y hy => by
            rcases List.mem_append.1 hy with hy | hy
            · exact ⟨(hI y (hCi y hy)).1, ml _ _ y (hCi y hy) (cN y hy).2.1, (hI y (hCi y hy)).2.2⟩
            · rcases (hT1m y).1 hy with rfl | rfl | hy
              · exact ⟨(hI _ hAi.1).1, ml _ _ _ hAi.1 ne, (hI _ hAi.1).2.2⟩
              · exact ⟨(hI B hBi.1).1, mor B A hBi.1 hAi.1, (hI B hBi.1).2.2⟩
              · exact ⟨(hI y (hUi y hy)).1, ml _ _ y (hUi y hy) (uA y hy).2, (hI y (hUi y hy)).2.2⟩)
          (hall T1 fun y hy => by
            rcases hy with rfl | rfl | hy
            · exact ⟨_, (hT1m _).2 (.inl rfl), rfl⟩
            · exact ⟨_, (hT1m _).2 (.inr (.inl rfl)), rfl⟩
            · exact ⟨y, (hT1m _).2 (.inr (.inr hy)), rfl⟩) p1 o1 b1
        have hS2 : Stat P ops (esC ++ es2) (some A.i) (some B.i) := stat_of (l := C ++ T2) (by rw [List.map_append, g1, u1]) (fun y hy => by
            rcases List.mem_append.1 hy with hy | hy
            · exact ⟨(hI y (hCi y hy)).1, ml _ _ y (hCi y hy) (cN y hy).1, (hI y (hCi y hy)).2.2⟩
            · rcases (hT2m y).1 hy with rfl | rfl | hy
              · exact ⟨(hI _ hBi.1).1, ml _ _ _ hBi.1 ne.symm, (hI _ hBi.1).2.2⟩
              · exact ⟨(hI A hAi.1).1, mor A B hAi.1 hBi.1, (hI A hAi.1).2.2⟩
              · exact ⟨(hI y (hUi y hy)).1, ml _ _ y (hUi y hy) (uA y hy).1, (hI y (hUi y hy)).2.2⟩)
          (hall T2 fun y hy => by
            rcases hy with rfl | rfl | hy
            · exact ⟨_, (hT2m _).2 (.inr (.inl rfl)), rfl⟩
            · exact ⟨_, (hT2m _).2 (.inl rfl), rfl⟩
            · exact ⟨y, (hT2m _).2 (.inr (.inr hy)), rfl⟩) p2 o2 b2
        have hx1 : ∀ e ∈ es1, e.x = A ∨ e.x = orM B A ∨ e.x ∈ U := fun e he => (hT1m _).1 (by rw [← t1]; exact List.mem_map.2 ⟨e, he, rfl⟩)
        have hx2 : ∀ e ∈ es2, e.x = B ∨ e.x = orM A B ∨ e.x ∈ U := fun e he => (hT2m _).1 (by rw [← u1]; exact List.mem_map.2 ⟨e, he, rfl⟩)
        have in1 : ∀ y ∈ T1, ∃ e ∈ es1, e.x = y := fun y hy => by rw [← t1] at hy; exact List.mem_map.1 hy
        have in2 : ∀ y ∈ T2, ∃ e ∈ es2, e.x = y := fun y hy => by rw [← u1] at hy; exact List.mem_map.1 hy
        have inC : ∀ e ∈ esC, e.x ∈ C := fun e he => by rw [← g1]; exact List.mem_map.2 ⟨e, he, rfl⟩
        obtain ⟨tA, aA, vA, opA, gdA, dA⟩ := isSt_some stA
        obtain ⟨tB, aB, vB, opB, gdB, dB⟩ := isSt_some stB'
        have hsp0 : SpecE env (fun _ => False) s0.env := ⟨fun e he => he.elim, fun t _ => by rw [← hs0]⟩
        have hE1 : Chn P cb ops.toList n0 (esC ++ es1) s0 sE1 := Chn.join g2 t2
        have hE2 : Chn P cb ops.toList n0 (esC ++ es2) s0 sE2 := Chn.join g2 u2
        have sp1 := chn_env hS1 (R2 := []) (pre := []) (by simp) hE1 (hsp0.congr fun y => by simp)
        have sp2 := chn_env hS2 (R2 := []) (pre := []) (by simp) hE2 (hsp0.congr fun y => by simp)
        obtain ⟨hsame, hblk⟩ := band_true htwo
        have hslot : ∀ y ∈ T1, ∀ t, y.o.dst = some t → ∃ v, sE1.env.get t = some v ∧ sE2.env.get t = some v := fun y hy t ht => by
          have := alls_mem hsame y hy
          rw [ht] at this
          exact slotEq_some this
        have hT : Two P cb ops n0 esC es1 es2 env s0 sC sE1 sE2 A B := by
          refine ⟨hS1, hS2, ne, g2, t2, u2, ?_, fun e he => ?_, fun e he => ?_, fun e he => ?_, fun e he => ?_, fun e he => ?_, ?_, ?_⟩
          · rcases lastAct_some hlast with h | ⟨p, y, h1, h2⟩
            · rw [h] at g1; exact .inl (List.map_eq_nil_iff.1 g1)
            · rcases List.eq_nil_or_concat esC with h | ⟨q, e, h⟩
              · exact .inl h
              · refine .inr ⟨q, e, by rw [h, List.concat_eq_append], ?_⟩
                rw [h, List.concat_eq_append, List.map_append, h1] at g1
                have := List.append_inj_right' g1 rfl
                simp at this
                rw [this]; exact isAct_iff.1 h2
          · rcases hx1 e he with h | h | h
            · exact .inr (.inl (by rw [h]))
            · exact .inr (.inr (by rw [h]; rfl))
            · exact .inl (hUk _ h).1
          · rcases hx2 e he with h | h | h
            · refine ⟨by rw [h, kB]; decide, fun _ => .inr (by rw [h])⟩
            · refine ⟨by rw [h]; show A.k ≠ 2; rw [kA]; decide, fun _ => .inl (by rw [h]; rfl)⟩
            · refine ⟨by rw [(hUk _ h).1]; decide, fun h3 => by rw [(hUk _ h).1] at h3; simp at h3⟩
          · rcases hx1 e he with h | h | h
            · rw [h, kA]; decide
            · rw [h]; show B.k ≠ 2; rw [kB]; decide
            · rw [(hUk _ h).1]; decide
          · rcases hx2 e he with h | h | h
            · obtain ⟨y, hy, hyx⟩ := in1 (orM B A) ((hT1m _).2 (.inr (.inl rfl)))
              exact ⟨y, hy, by rw [hyx, h]; rfl, by rw [hyx, h]; rfl, fun _ hn => absurd (by rw [h]) hn, fun t ht => by rw [h, dB] at ht; simp at ht⟩
            · obtain ⟨y, hy, hyx⟩ := in1 A ((hT1m _).2 (.inl rfl))
              exact ⟨y, hy, by rw [hyx, h]; rfl, by rw [hyx, h]; rfl, fun hn _ => absurd (by rw [h]; rfl) hn, fun t ht => by rw [h] at ht; rw [show (orM A B).o.dst = A.o.dst from rfl, dA] at ht; simp at ht⟩
            · obtain ⟨y, hy, hyx⟩ := in1 e.x ((hT1m _).2 (.inr (.inr h)))
              refine ⟨y, hy, by rw [hyx], by rw [hyx], fun _ _ => by rw [hyx], fun t ht => ?_⟩
              obtain ⟨v, v1, v2⟩ := hslot e.x ((hT1m _).2 (.inr (.inr h))) t ht
              rw [sp1.w y (by simp [hy]) t (by rw [hyx]; exact ht)] at v1
              rw [sp2.w e (by simp [he]) t ht] at v2
              rw [← gp_some v1, ← gp_some v2]
          · rw [← (hI B hBi.1).2.1]; exact (cN _ (inC e he)).2.2
          · obtain ⟨y, hy, hyx⟩ := in1 A ((hT1m _).2 (.inl rfl))
            exact ⟨y, hy, by rw [hyx], by rw [hyx]; exact kA⟩
          · obtain ⟨y, hy, hyx⟩ := in1 (orM B A) ((hT1m _).2 (.inr (.inl rfl)))
            exact ⟨y, hy, by rw [hyx]; rfl, by rw [hyx]; exact kB⟩
        -- the slots
        have henv : ∀ t v, sE1.env.get t = some v → sE2.env.get t = some v := fun t v hv => by
          by_cases hy : ∃ y ∈ es1, y.x.o.dst = some t
          · obtain ⟨y, hy, hyt⟩ := hy
            obtain ⟨q, q1, q2⟩ := hslot y.x (by rw [← t1]; exact List.mem_map.2 ⟨y, hy, rfl⟩) t hyt
            rw [hv] at q1
            rw [q2, Option.some.inj q1]
          · by_cases hyC : ∃ y ∈ esC, y.x.o.dst = some t
            · obtain ⟨y, hy, hyt⟩ := hyC
              rw [sp2.w y (by simp [hy]) t hyt, ← sp1.w y (by simp [hy]) t hyt]; exact hv
            · rw [sp2.n t fun e he hd => ?_, ← sp1.n t fun e he hd => ?_]
              · exact hv
              · simp at he
                rcases he with he | he
                · exact hyC ⟨e, he, hd⟩
                · exact hy ⟨e, he, hd⟩
              · simp at he
                rcases he with he | he
                · exact hyC ⟨e, he, hd⟩
                · obtain ⟨y, h1, _, h2, _⟩ := hT.same e he
                  exact hy ⟨y, h1, by rw [h2]; exact hd⟩
        -- the blocks
        cases hqA : stB A sE1.env with
        | none => rw [hqA] at hblk; simp at hblk
        | some qa =>
          rw [hqA] at hblk
          have hblk : (Option.rec false (fun b => band (Nat.blt qa 1000000000) (band (Nat.blt b 1000000000) (blksEq sE1.H sE2.H qa b))) (stB B sE1.env) : Bool) = true := hblk
          cases hqB : stB B sE1.env with
          | none => rw [hqB] at hblk; simp at hblk
          | some qb =>
            rw [hqB] at hblk
            obtain ⟨la, hblk⟩ := band_true hblk
            obtain ⟨lb, hblk⟩ := band_true hblk
            have la := blt_lt la
            have lb := blt_lt lb
            obtain ⟨oa, ob⟩ := band_true hblk
            have up : ∀ (z : It) q, (∃ t a v, z.o.op = .store t a v) → stB z sE1.env = some q → stB z sE2.env = some q := fun z q ⟨t, ad, v, hz⟩ h => by
              unfold stB at h ⊢
              rw [hz] at h ⊢
              obtain ⟨u, f1, f2⟩ := obind_some h
              have : (gop ad).run sE2.env = some u := by
                cases ad with
                | tmp d => exact henv d u f1
                | _ => exact f1
              show obind ((gop ad).run sE2.env) _ = _
              rw [this]; exact f2
            have st1 : ∀ c, c ≠ qa → c ≠ qb → ∀ u, sE1.H.get c = some u ↔ sC.H.get c = some u := fun c ca cb' => by
              refine (chn_st t2 fun e he => ?_).2 c fun R1 e R2 s1 hR hch hs => ?_
              · rcases hx1 e he with h | h | h
                · exact .inr ⟨by rw [h]; exact stA, by rw [h]; exact kA⟩
                · exact .inr ⟨by rw [h]; exact stB', by rw [h]; exact kB⟩
                · exact .inl (hUk _ h).1
              · have heR : e ∈ es1 := by rw [hR]; simp
                have hse := stB_end (q := qa) hS1 (l1 := esC ++ R1) (e := e) (l2 := R2) (by rw [hR]; simp) hsp0 (Chn.join g2 hch) hE1
                have hse2 := stB_end (q := qb) hS1 (l1 := esC ++ R1) (e := e) (l2 := R2) (by rw [hR]; simp) hsp0 (Chn.join g2 hch) hE1
                have hw : ∀ y ∈ R2, y.x.o.dst = none ∨ has y.x.m e.x.i = false := fun y hy => by
                  rcases hx1 y (by rw [hR]; simp [hy]) with h | h | h
                  · exact .inl (by rw [h]; exact dA)
                  · exact .inl (by rw [h]; exact dB)
                  · refine .inr ?_
                    rcases hx1 e heR with h' | h' | h'
                    · rw [h']; exact (hUk _ h).2.1
                    · rw [h']; exact (hUk _ h).2.2
                    · exfalso
                      unfold isSt at hs
                      have hk := (hI _ (hUi _ h')).2.2
                      rw [(hUk _ h').1] at hk
                      split at hs
                      · rename_i q1 q2 q3 ho _ _
                        unfold kindO at hk
                        rw [ho] at hk
                        simp at hk
                      · simp at hs
                rcases hx1 e heR with h | h | h
                · exact ⟨qa, (hse (by rw [h]; exact dA) hw (by rw [h]; exact gdA)).2 (by rw [h]; exact hqA), ca, la⟩
                · exact ⟨qb, (hse2 (by rw [h]; exact dB) hw (by rw [h]; exact gdB)).2 (by rw [h]; exact hqB), cb', lb⟩
                · exfalso
                  obtain ⟨_, _, _, ho, _⟩ := isSt_some hs
                  have hk := (hI _ (hUi _ h)).2.2
                  rw [(hUk _ h).1] at hk
                  unfold kindO at hk
                  rw [ho] at hk
                  simp at hk
            have st2 : ∀ c, c ≠ qa → c ≠ qb → ∀ u, sE2.H.get c = some u ↔ sC.H.get c = some u := fun c ca cb' => by
              refine (chn_st u2 fun e he => ?_).2 c fun R1 e R2 s1 hR hch hs => ?_
              · rcases hx2 e he with h | h | h
                · exact .inr ⟨by rw [h]; exact stB', by rw [h]; exact kB⟩
                · exact .inr ⟨by rw [h]; exact stA, by rw [h]; exact kA⟩
                · exact .inl (hUk _ h).1
              · have heR : e ∈ es2 := by rw [hR]; simp
                have hse := stB_end (q := qa) hS2 (l1 := esC ++ R1) (e := e) (l2 := R2) (by rw [hR]; simp) hsp0 (Chn.join g2 hch) hE2
                have hse2 := stB_end (q := qb) hS2 (l1 := esC ++ R1) (e := e) (l2 := R2) (by rw [hR]; simp) hsp0 (Chn.join g2 hch) hE2
                have noU : e.x ∈ U → False := fun h => by
                  obtain ⟨_, _, _, ho, _⟩ := isSt_some hs
                  have hk := (hI _ (hUi _ h)).2.2
                  rw [(hUk _ h).1] at hk
                  unfold kindO at hk
                  rw [ho] at hk
                  simp at hk
                have hw : ∀ y ∈ R2, y.x.o.dst = none ∨ has y.x.m e.x.i = false := fun y hy => by
                  rcases hx2 y (by rw [hR]; simp [hy]) with h | h | h
                  · exact .inl (by rw [h]; exact dB)
                  · exact .inl (by rw [h]; exact dA)
                  · refine .inr ?_
                    rcases hx2 e heR with h' | h' | h'
                    · rw [h']; exact (hUk _ h).2.2
                    · rw [h']; exact (hUk _ h).2.1
                    · exact (noU h').elim
                rcases hx2 e heR with h | h | h
                · exact ⟨qb, (hse2 (by rw [h]; exact dB) hw (by rw [h]; exact gdB)).2 (by rw [h]; exact up B qb ⟨_, _, _, opB⟩ hqB), cb', lb⟩
                · exact ⟨qa, (hse (by rw [h]; exact dA) hw (by rw [h]; exact gdA)).2 (by rw [h]; exact up A qa ⟨_, _, _, opA⟩ hqA), ca, la⟩
                · exact (noU h).elim
            have hkn : ∀ c o, sE1.H.know c = some o → sE2.H.know c = some o := fun c o ho => by
              have hd : o ≠ .dead := fun e => by subst e; unfold Heap.know at ho; split at ho <;> simp_all
              have hg := know_get ho
              refine know_of_get ?_ hd
              by_cases ca : c = qa
              · subst ca
                obtain ⟨z, z1, z2⟩ := optEq_some oa
                rw [hg] at z1
                rw [z2, Option.some.inj z1]
              · by_cases cb' : c = qb
                · subst cb'
                  obtain ⟨z, z1, z2⟩ := optEq_some ob
                  rw [hg] at z1
                  rw [z2, Option.some.inj z1]
                · exact (st2 c ca cb' o).2 ((st1 c ca cb' o).1 hg)
            have hnx : sE1.H.next = sE2.H.next := by
              rw [(chn_st t2 fun e he => ?_).1, (chn_st u2 fun e he => ?_).1]
              · rcases hx2 e he with h | h | h
                · exact .inr ⟨by rw [h]; exact stB', by rw [h]; exact kB⟩
                · exact .inr ⟨by rw [h]; exact stA, by rw [h]; exact kA⟩
                · exact .inl (hUk _ h).1
              · rcases hx1 e he with h | h | h
                · exact .inr ⟨by rw [h]; exact stA, by rw [h]; exact kA⟩
                · exact .inr ⟨by rw [h]; exact stB', by rw [h]; exact kB⟩
                · exact .inl (hUk _ h).1
            obtain ⟨hI0, hLd⟩ := Inv.start hS1 hA hbig (by rw [hs0]; exact hE1)
            rw [hs0] at hI0
            exact wp_region_any hm (Inv.two hπ hcb (fun o ho => opsOk_mem hok o ho) hT (fun _ _ h => h) (fun _ _ h => Done.conv henv hkn hnx h) ops.size _ a _ [] (esC ++ es1) s0 σ env hI0 (fun _ => hLd _) (cnt_rep _))

theorem draw_ok (hπ : ∀ i, (π i).oneCell' = true) {cb : Cb} (hcb : CbOk π B P cb) (hm : P.follows .mixedOrders = true) {id : Nat} {ops : Array Oper} {b : Base} {N : Nat} {x : Ex} {env env' : Env} {H H' : Heap} {σ : Sg} {a : Act} {w : World}
    (hok : opsOk N ops.toList = true) (hA : At π B b N σ env H a w) (h : (drawC P ops.toList).run cb env H = .ok x env' H') : (Code.region id ops true).wp P (Done π B b N x env' H') a w := by
  have h : (match band (okAll ops.toList (items P (masks ops.toList []) ops.toList 0)) (band (okOrd (order (filt isAct (items P (masks ops.toList []) ops.toList 0)) (filt (fun x => bnot (isAct x)) (items P (masks ops.toList []) ops.toList 0))))
      (alls (fun x : It => Nat.blt x.m (Nat.pow 2 (len ops.toList))) (items P (masks ops.toList []) ops.toList 0))) with
      | true => (W.rec (motive := fun _ => W (Cb → Env → Heap → R)) (fun k => ⟨fun cb env H => Heap.rec (fun bl n => Bool.rec (.no [29]) (k cb n env ⟨bl, Nat.add n (len ops.toList)⟩ [⟨bl, Nat.add n (len ops.toList)⟩]) (Nat.ble (Nat.add n (len ops.toList)) BIG)) H⟩)
          (drawL P ops.toList (order (filt isAct (items P (masks ops.toList []) ops.toList 0)) (filt (fun x => bnot (isAct x)) (items P (masks ops.toList []) ops.toList 0))) []) : W (Cb → Env → Heap → R))
      | false => drawC2 P ops.toList).run cb env H = .ok x env' H' := h
  generalize hits : items P (masks ops.toList []) ops.toList 0 = its at h
  generalize hord : order (filt isAct its) (filt (fun x => bnot (isAct x)) its) = ord at h
  cases hc : band (okAll ops.toList its) (band (okOrd ord) (alls (fun x : It => Nat.blt x.m (Nat.pow 2 (len ops.toList))) its)) with
  | false => rw [hc] at h; exact draw2_ok hπ hcb hm hok hA h
  | true =>
    rw [hc] at h
    obtain ⟨hall, hc2⟩ := band_true hc
    obtain ⟨hor, hbd⟩ := band_true hc2
    obtain ⟨bl, n0⟩ := H
    have h : (Bool.rec (.no [29]) ((drawL P ops.toList ord []).run cb n0 env ⟨bl, n0 + len ops.toList⟩ [⟨bl, n0 + len ops.toList⟩]) (Nat.ble (n0 + len ops.toList) BIG) : R) = .ok x env' H' := h
    cases hb : Nat.ble (n0 + len ops.toList) BIG with
    | false => rw [hb] at h; exact absurd (show R.no [29] = R.ok x env' H' from h) (by simp)
    | true =>
      rw [hb] at h
      have h : (drawL P ops.toList ord []).run cb n0 env ⟨bl, n0 + len ops.toList⟩ [⟨bl, n0 + len ops.toList⟩] = .ok x env' H' := h
      have hmemI : ∀ y, y ∈ ord ↔ y ∈ its := fun y => by
        rw [← hord, order_mem, filt_mem, filt_mem, bnot_eq]
        cases isAct y <;> simp
      have hI : ∀ y ∈ its, ops.toList[y.i]? = some y.o ∧ y.m = M ops.toList y.i ∧ y.k = kindO P y.o := fun y hy => by
        rw [← hits, items_mem] at hy
        obtain ⟨j, o, h1, rfl⟩ := hy
        exact ⟨by simpa using h1, rfl, rfl⟩
      obtain ⟨rfl, es, sEnd, g1, g2, rfl, rfl, _⟩ := draw_tr (P := P) ord ⟨[], env, ⟨bl, n0 + len ops.toList⟩, [⟨bl, n0 + len ops.toList⟩]⟩ (fun y hy => by rw [(hI y ((hmemI y).1 hy)).2.2]; exact kindO_le _) (Nat.le_of_ble_eq_true hb) h
      have hes : ∀ e ∈ es, e.x ∈ its := fun e he => (hmemI _).1 (by rw [← g1]; exact List.mem_map.2 ⟨e, he, rfl⟩)
      have hS : Stat P ops es none none := by
        refine ⟨fun e he => hI _ (hes e he), fun i hi => ?_, fun e he y hy => ?_, fun l1 e l2 hl => ?_, fun e he j hj => ?_⟩
        · have h1 : (⟨0 + i, kindO P ops[i], Option.rec 0 (fun m => m) (nth (masks ops.toList []) (0 + i)), ops[i]⟩ : It) ∈ its := by
            rw [← hits, items_mem]
            exact ⟨i, ops[i], by simp [hi], rfl⟩
          rw [← hmemI, ← g1] at h1
          obtain ⟨e, he, h2⟩ := List.mem_map.1 h1
          exact ⟨e, he, by rw [h2]; simp⟩
        · exact alls_mem (alls_mem hall _ (hes e he)) _ (hes y hy)
        · rw [← g1, hl, map_split] at hor
          obtain ⟨h1, h2⟩ := okOrd_split hor
          exact ⟨h1, fun y hy => h2 y.x (List.mem_map.2 ⟨y, hy, rfl⟩)⟩
        · have h1 := blt_lt (alls_mem hbd _ (hes e he))
          rw [len_eq, Array.length_toList] at h1
          have h1 : e.x.m < 2 ^ ops.size := h1
          rcases Nat.lt_or_ge j ops.size with h2 | h2
          · exact h2
          · have h3 : Nat.testBit e.x.m j = false := Nat.testBit_lt_two_pow (Nat.lt_of_lt_of_le h1 (Nat.pow_le_pow_right (by decide) h2))
            rw [show has e.x.m j = Nat.testBit e.x.m j from rfl, h3] at hj; simp at hj
      have hn : len ops.toList = ops.size := by rw [len_eq, Array.length_toList]
      have hLd : ∀ i, Ld (Array.replicate ops.size false) i = false := fun i => by
        unfold Ld
        rw [Array.getD_eq_getD_getElem?, Array.getElem?_replicate]
        split <;> rfl
      have hX : Xof n0 (Array.replicate ops.size false) es = fun _ => none := by
        funext c
        cases hx : Xof n0 (Array.replicate ops.size false) es c with
        | none => rfl
        | some o =>
          obtain ⟨y, _, h1, _⟩ := Xof_some hx
          rw [hLd] at h1; simp at h1
      have hkn : ovl (Xof n0 (Array.replicate ops.size false) es) (⟨bl, n0 + len ops.toList⟩ : Heap).know = (⟨bl, n0⟩ : Heap).know := by
        funext c; rw [hX]; exact ovl_k rfl
      have hun : ∀ c, n0 ≤ c → (⟨bl, n0⟩ : Heap).know c = none := fun c hc => by
        cases hx : (⟨bl, n0⟩ : Heap).know c with
        | none => rfl
        | some o =>
          obtain ⟨Lc, h1, _⟩ := hA.sr.rel.obj c o hx
          rw [hA.sr.dom c hc] at h1; simp at h1
      refine wp_region_any hm (Inv.any (es := es) (env0 := env) (s0 := ⟨[], env, ⟨bl, n0 + len ops.toList⟩, [⟨bl, n0 + len ops.toList⟩]⟩) (n0 := n0) hπ hcb (fun o ho => opsOk_mem hok o ho) hS (fun _ _ h => h) ops.size _ a _ [] es ⟨[], env, ⟨bl, n0 + len ops.toList⟩, [⟨bl, n0 + len ops.toList⟩]⟩ σ env ?_ (fun _ h => by simp at h) (cnt_rep _))
      refine ⟨rfl, g2, ⟨fun e he => by simp at he, fun t _ => rfl⟩, ⟨[], rfl⟩, Nat.le_of_ble_eq_true hb, by simp, fun e he => by simp at he, fun e _ hl => ?_, fun e _ hl => ?_, hA.env, ⟨fun e he => ?_, fun t _ => rfl⟩, ?_, fun c hc => hA.sr.dom c ?_, hA.sr.base, fun e he => ?_, fun e _ => ?_, fun e _ _ => hA.sr.dom _ (Nat.le_add_right _ _), ?_, hA.nx.nx, ?_, hA.tm, hA.df, rfl, .inl rfl⟩
      · rw [hLd] at hl; simp at hl
      · rw [hLd] at hl; simp at hl
      · have := he.2; rw [hLd] at this; simp at this
      · rw [hkn]; exact hA.sr.rel.same rfl
      · exact Nat.le_trans (Nat.le_add_right _ _) hc
      · have := hS.lt he
        show n0 + e.x.i < n0 + len ops.toList
        omega
      · exact hun _ (Nat.le_add_right _ _)
      · rw [hkn]
        exact ⟨hA.ext.sg, hA.ext.os, hA.ext.tape, hA.ext.output, hA.ext.size, hA.ext.frame, hA.ext.img⟩
      · exact ⟨Nat.le_trans hA.nx.nx (Nat.le_add_right _ _), hA.nx.keep, hA.nx.kn⟩

end
end Go.Proofs.Ytlnjikneepgpaaa.Fast
