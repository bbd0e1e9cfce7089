/- A region that draws its order does, in each order, what the run does in its one. -/
import Derived.Test.YtlmabmpdbcgabaaDoorEvDraw4
namespace Go.Proofs.YtlmabmpdbcgabaaDoor.Fast
section
variable {π : Nat → Value} {B : Nat} {P : Program}

def cnt : List Bool → Nat
  | [] => 0
  | b :: t => cnt t + (if b then 0 else 1)

theorem cnt_set : ∀ (l : List Bool) (i : Nat), l[i]? = some false → cnt (l.set i true) + 1 = cnt l
  | [], i, h => by simp at h
  | b :: t, 0, h => by simp at h; subst h; simp [cnt]
  | b :: t, i + 1, h => by
    have := cnt_set t i (by simpa using h)
    show cnt (t.set i true) + (if b then 0 else 1) + 1 = cnt t + (if b then 0 else 1)
    omega

theorem cnt_zero : ∀ (l : List Bool), cnt l = 0 → ∀ i, i < l.length → l[i]? = some true
  | [], _, i, h => by simp at h
  | b :: t, h, i, hi => by
    have h : cnt t + (if b then 0 else 1) = 0 := h
    cases b with
    | false => simp at h
    | true => cases i with
      | zero => rfl
      | succ i => simpa using cnt_zero t (by simpa using h) i (by simpa using hi)

theorem cnt_le : ∀ (l : List Bool), cnt l ≤ l.length
  | [] => Nat.le_refl _
  | b :: t => by
    have := cnt_le t
    show cnt t + (if b then 0 else 1) ≤ t.length + 1
    split <;> omega

theorem first_not {α : Type} (p : α → Bool) : ∀ (l : List α), (∀ x ∈ l, p x = true) ∨ ∃ l1 x l2, l = l1 ++ x :: l2 ∧ p x = false ∧ ∀ y ∈ l1, p y = true
  | [] => .inl (by simp)
  | a :: l => by
    cases h : p a with
    | false => exact .inr ⟨[], a, l, rfl, h, by simp⟩
    | true =>
      rcases first_not p l with h1 | ⟨l1, x, l2, rfl, h2, h3⟩
      · exact .inl (by simpa [h] using h1)
      · exact .inr ⟨a :: l1, x, l2, rfl, h2, by simpa [h] using h3⟩

theorem ready_mem {ops : Array Oper} {L : Array Bool} (hs : L.size = ops.size) {i : Nat} : i ∈ Region.ready .any ops L ↔ i < ops.size ∧ Ld L i = false ∧ ∃ o, ops[i]? = some o ∧ ∀ e ∈ o.after.toList, Region.binds .any e = true → Ld L e.on = true := by
  unfold Region.ready Ld
  rw [List.mem_filter, List.mem_range]
  refine and_congr_right fun hi => ?_
  have hL : L.getD i true = L.getD i false := by
    rw [Array.getD_eq_getD_getElem?, Array.getD_eq_getD_getElem?, Array.getElem?_eq_getElem (by omega)]; rfl
  rw [hL, Bool.and_eq_true, Array.getElem?_eq_getElem hi]
  simp only [Option.map_some, Option.getD_some, Array.all_eq_true_iff_forall_mem, Bool.or_eq_true, Bool.not_eq_true']
  refine and_congr_right fun _ => ⟨fun h => ⟨_, rfl, fun e he hb => ?_⟩, fun ⟨o, ho, h⟩ e he => ?_⟩
  · rcases h e (by simpa using he) with h | h
    · rw [hb] at h; simp at h
    · exact h
  · obtain rfl := Option.some.inj ho
    cases hb : Region.binds .any e with
    | false => exact .inl rfl
    | true => exact .inr (h e (by simpa using he) hb)

section
variable {cb : Cb} {ops : Array Oper} {b : Base} {N n0 : Nat} {es : List TE} {env0 : Env} {sEnd : St} {L : Array Bool} {a : Act} {w : World} {pre R : List TE} {s : St} {σ : Sg} {envL : Env}

theorem Inv.ready (hI : Inv π B P cb ops b N n0 es env0 sEnd L a w pre R s σ envL) (hS : Stat P ops es) (h : Region.ready .any ops L = []) : ∀ e ∈ es, Ld L e.x.i = true := by
  rcases first_not (fun e : TE => Ld L e.x.i) es with h1 | ⟨l1, e, l2, hes, h2, h3⟩
  · exact h1
  · exfalso
    have he : e ∈ es := by rw [hes]; simp
    have hmem := (hS.mem e he)
    have : e.x.i ∈ Region.ready .any ops L := by
      refine (ready_mem hI.size).2 ⟨hS.lt he, h2, e.x.o, by rw [← Array.getElem?_toList]; exact hmem.1, fun d hd hb => ?_⟩
      have hh : has e.x.m d.on = true := by rw [hmem.2.1]; exact M_edge hmem.1 hd hb
      obtain ⟨y, hy, hyi⟩ := hS.all d.on (hS.bnd e he _ hh)
      have ho := hS.ord l1 e l2 hes
      rw [← hyi] at hh ⊢
      rw [hes] at hy
      rcases List.mem_append.1 hy with hy | hy
      · exact h3 y hy
      · rcases List.mem_cons.1 hy with rfl | hy
        · rw [ho.1] at hh; simp at hh
        · rw [(ho.2 y hy).2.1] at hh; simp at hh
    rw [h] at this; simp at this

theorem Inv.step (hπ : ∀ i, (π i).oneCell' = true) (hcb : CbOk π B P cb) (hok : ∀ o ∈ ops.toList, (Option.rec true (fun d => Nat.blt d N) o.dst : Bool) = true) (hI : Inv π B P cb ops b N n0 es env0 sEnd L a w pre R s σ envL) (hS : Stat P ops es) {i : Nat} (hi : i ∈ Region.ready .any ops L)
    {K : Act → World → Prop} {Q : Exit → Act → World → Prop} (hK : ∀ a' w' pre' R' s' σ' envL', Inv π B P cb ops b N n0 es env0 sEnd (L.setIfInBounds i true) a' w' pre' R' s' σ' envL' → K a' w') : wpOp P ops Q i K a w := by
  obtain ⟨hi1, hd, o, ho, hed⟩ := (ready_mem hI.size).1 hi
  obtain ⟨e, he, rfl⟩ := hS.all i hi1
  have hmem := hS.mem e he
  obtain rfl : e.x.o = o := by
    have := hmem.1
    rw [Array.getElem?_toList, ho] at this
    exact (Option.some.inj this).symm
  have hm : ∀ j, has e.x.m j = true → Ld L j = true := fun j hj => by
    rw [hmem.2.1] at hj
    obtain ⟨d, h1, h2, h3⟩ := M_bit hmem.1 hj
    have h4 := hed d h1 h2
    rcases h3 with rfl | h3
    · exact h4
    · obtain ⟨y, hy, hyi⟩ := hS.all d.on (by
        refine hS.bnd e he _ ?_
        rw [hmem.2.1]; exact M_edge hmem.1 h1 h2)
      refine hI.clo y hy (by rw [hyi]; exact h4) j ?_
      rw [(hS.mem y hy).2.1, hyi]; exact h3
  have hN := hok e.x.o (List.mem_of_getElem? hmem.1)
  obtain ⟨R1, R2, s1, hR, c1, hT, c2, hs1⟩ := hI.split hS he hd
  have hlook := hI.looks hS hR hd hm hs1
  have hw : Region.wanted e.x.o (yielded ops a.tmps) = e.on := want_ok hI.env (by rw [want_congr hlook]; exact hT.want)
  have hag : Agree envL s1.env e.x.o.op.operands.toList := agree_of fun t ht => hlook t (looks_tmps ht)
  have haop : ∀ H, (aop P e.x.o).run envL H = (aop P e.x.o).run s1.env H := fun H => aop_congr hag
  unfold wpOp
  rw [ho]
  dsimp only
  rw [hw]
  cases hon : e.on with
  | false =>
    rw [if_neg (by simp)]
    obtain ⟨f1, f2⟩ := hT.off hon
    have hv : VR π σ e.v undef := by rw [f1]; exact undef_VR
    by_cases hk : e.x.k = 3
    · have hA := hI.ahead hS hR c1 hm hk
      refine hK _ _ _ _ _ _ _ (hI.act hS hR hT c2 hs1 hd hm hk hA hN hv ?_ ?_ ?_)
      · rw [f2]; exact hA.sr
      · rw [f2]; exact Ext.refl _ _ _
      · rw [f2]; exact Nx.refl _ _
    · have hx := hI.xof_same hS he (.inl hon)
      refine hK _ _ _ _ _ _ _ (hI.quiet hS he hd hm hk hN hv ?_ ?_ fun _ _ => rfl)
      · rw [hx]; exact hI.rel
      · rw [hx]; exact Ext.refl _ _ _
  | true =>
    rw [if_pos rfl]
    refine .inl ?_
    unfold Oper.wp
    have go : ∀ (x : Value) (w' : World), Yl P e.x.o a w x w' → K (a.put e.x.o.dst x) w' → Oper.upon P e.x.o a K Q ((execOp a.eval e.x.o).run P w) := fun x w' hy hk => by
      rcases hy with hy | ⟨hy, rfl⟩
      · rw [hy, Oper.upon_value]; exact hk
      · rw [hy, Oper.upon_skip]; exact hk
    rcases (show e.x.k = 0 ∨ e.x.k = 1 ∨ e.x.k = 2 ∨ e.x.k = 3 from by have := hS.le3 he; omega) with hk | hk | hk | hk
    · obtain ⟨_, H1, g2, g3⟩ := hT.on0 hon hk
      have hsr : SR π B σ ⟨.e, BIG⟩ w := ⟨⟨fun b o h => by simp [Heap.know, Heap.get, Tr.get_e] at h, fun b b' o o' L L' h => by simp [Heap.know, Heap.get, Tr.get_e] at h⟩, fun c hc => hI.dom c (Nat.le_trans hI.nxt hc), hI.base⟩
      have hop := aop_ok (P := P) (o := e.x.o) hπ hsr hI.env
      rw [haop, g2] at hop
      obtain ⟨σ', x, w', hy, hv, hS', hE, hn⟩ := hop
      refine go x w' hy ?_
      have hx := hI.xof_same hS he (.inr (by omega))
      have hkn : ∀ c, (⟨.e, BIG⟩ : Heap).know c = none := fun c => rfl
      obtain ⟨r1, r2⟩ := Rel.lift (X := ovl (Xof n0 L R) s.H.know) (hI.rel.less fun c o h => by
        rcases ovl_inv h with h | ⟨_, h⟩
        · exact h
        · rw [hkn] at h; simp at h) (fun c o _ => hkn c) hE hS'.rel
      have l1 : ∀ K c o, ovl (Xof n0 L R) s.H.know c = some o → ovl (ovl (Xof n0 L R) s.H.know) K c = some o := fun K c o h => ovl_x h
      have l0 : ovl (ovl (Xof n0 L R) s.H.know) (⟨.e, BIG⟩ : Heap).know = ovl (Xof n0 L R) s.H.know := by
        funext c
        cases h : ovl (Xof n0 L R) s.H.know c with
        | none => rw [ovl_k h]; exact hkn c
        | some o => exact ovl_x h
      rw [l0] at r2
      refine hK _ _ _ _ _ _ _ (hI.quiet hS he hd hm (by omega) hN hv ?_ ?_ fun c _ => ?_)
      · rw [hx]; exact r1.less (l1 _)
      · rw [hx]; exact r2.less (l1 _)
      · rcases Nat.lt_or_ge c BIG with h | h
        · exact hn.keep c h
        · rw [hS'.dom c (by omega), hI.dom c (Nat.le_trans hI.nxt h)]
    · obtain ⟨_, Hk, tl, H1, g1, g2, g3, g4⟩ := hT.on1 hon hk
      obtain ⟨tl0, htl⟩ := hI.hs
      obtain ⟨l, k1, k2, k3⟩ := chn_hs c1
      have hr : ∃ H1, (aop P e.x.o).run s1.env s.H.big = .val e.v H1 ∧ H1.next = BIG := by
        rw [htl] at k1
        cases l with
        | nil =>
          obtain ⟨rfl, _⟩ := List.cons.inj (k1.symm.trans g1)
          exact ⟨H1, g2, g3⟩
        | cons Hl l =>
          have k1' : Hk :: tl = Hl :: (l ++ s.H :: tl0) := g1.symm.trans k1
          obtain ⟨_, rfl⟩ := List.cons.inj k1'
          refine sameIn_get g4 l.length s.H ?_ (by simp)
          have hle : (R1.filter fun e => isAct e.x).length ≤ slack e.x.m s1.acts := by
            unfold slack
            rw [len_eq, k2]
            have hf : ∀ (p : It → Bool) (q : List It), filt p q = q.filter p := fun p q => by
              induction q with
              | nil => rfl
              | cons a q ih =>
                show (Bool.rec (filt p q) (a :: filt p q) (p a) : List It) = _
                cases h : p a <;> simp [h, ih]
            rw [hf, List.filter_append, List.length_append]
            have : ((R1.filter fun e => isAct e.x).map (·.x)).filter (fun a => bnot (has e.x.m a.i)) = (R1.filter fun e => isAct e.x).map (·.x) := by
              refine List.filter_eq_self.2 fun y hy => ?_
              obtain ⟨z, hz, rfl⟩ := List.mem_map.1 hy
              obtain ⟨hz1, hz2⟩ := List.mem_filter.1 hz
              rw [bnot_eq]
              cases hh : has e.x.m z.x.i with
              | false => rfl
              | true => exact absurd (isAct_iff.1 hz2) (hI.rAct z (by rw [hR]; simp [hz1]) (hm _ hh))
            rw [this, List.length_map]
            omega
          simp at k3
          omega
      obtain ⟨H2, g5, g6⟩ := hr
      have hkn : s.H.big.know = s.H.know := rfl
      have hK0 : ∀ c o, Xof n0 L R c = some o → s.H.big.know c = none := fun c o h => by
        obtain ⟨y, hy, _, _, _, rfl, _⟩ := Xof_some h
        rw [hkn]; exact hI.unk y hy
      have hsr : SR π B σ s.H.big w := ⟨hI.rel.less fun c o h => by
        cases hx : Xof n0 L R c with
        | none => rw [ovl_k hx]; exact h
        | some u => rw [hK0 c u hx] at h; simp at h, fun c hc => hI.dom c (Nat.le_trans hI.nxt hc), hI.base⟩
      have hop := aop_ok (P := P) (o := e.x.o) hπ hsr hI.env
      rw [haop, g5] at hop
      obtain ⟨σ', x, w', hy, hv, hS', hE, hn⟩ := hop
      obtain rfl := read_same (by rw [← hmem.2.2]; exact hk) g5
      refine go x w' hy ?_
      have hx := hI.xof_same hS he (.inr (by omega))
      obtain ⟨r1, r2⟩ := Rel.lift (X := Xof n0 L R) hI.rel hK0 hE hS'.rel
      refine hK _ _ _ _ _ _ _ (hI.quiet hS he hd hm (by omega) hN hv ?_ ?_ fun c _ => ?_)
      · rw [hx]; exact r1
      · rw [hx]; exact r2
      · rcases Nat.lt_or_ge c BIG with h | h
        · exact hn.keep c h
        · rw [hS'.dom c (by omega), hI.dom c (Nat.le_trans hI.nxt h)]
    · obtain ⟨f, g1, g2, g3, g4⟩ := hT.on2 hon hk
      have g1 : (freC P e.x.o).run envL = some f := by rw [freC_congr hag]; exact g1
      obtain ⟨x, C, csz, q1, q2⟩ := (freC_ok (a := a) (w := w) hπ hI.env g1).ex
      have heR : e ∈ R := by rw [hR]; simp
      obtain ⟨σ', t1, t2, t3, t4, t5⟩ := Rel.more (w' := w.alloc C) hI.rel hI.base (n0 + e.x.i) e.ob ⟨w.heap.size, 0, csz⟩ (hI.sn e heR hd) rfl
        (fun k hk => by show (w.heap.push C)[k]? = _; simp [Array.getElem?_push, Nat.ne_of_lt hk]) (by show w.heap.size ≤ (w.heap.push C).size; simp) ⟨rfl, rfl, rfl⟩ (fun σ' h1 h2 => by
          rw [g3]; exact (q2 σ' _ h1 h2).2 _ (by show (w.heap.push C)[w.heap.size]? = _; simp))
      have hless : ∀ c o, ovl (Xof n0 (L.setIfInBounds e.x.i true) R) s.H.know c = some o → ovl (fun b => if b = n0 + e.x.i then some e.ob else Xof n0 L R b) s.H.know c = some o := fun c o h => by
        rcases ovl_inv h with h | ⟨h1, h2⟩
        · rcases hI.xof_down hS he h with h | ⟨rfl, rfl, _⟩
          · refine ovl_x ?_
            have hne : c ≠ n0 + e.x.i := fun e1 => by
              obtain ⟨y, _, y1, _, _, y2, _⟩ := Xof_some h
              have : y.x.i = e.x.i := by omega
              rw [this, hd] at y1; simp at y1
            rw [if_neg hne]; exact h
          · exact ovl_x (by rw [if_pos rfl])
        · have hne : c ≠ n0 + e.x.i := fun e1 => by rw [e1, hI.unk e heR] at h2; simp at h2
          refine (ovl_k ?_).trans h2
          rw [if_neg hne]
          cases hx : Xof n0 L R c with
          | none => rfl
          | some u => rw [hI.xof_up hS he hx] at h1; simp at h1
      refine go x (w.alloc C) (.inl q1) ?_
      refine hK _ _ _ _ _ _ _ (hI.quiet hS he hd hm (by omega) hN (by rw [g2]; exact (q2 σ' _ t3 t1).1) (t4.less hless) (t5.less hless) fun c hc => t2 c hc)
    · have hA := hI.ahead hS hR c1 hm hk
      have next : ∀ (σ' : Sg) (x : Value) (w' : World), VR π σ' e.v x → SR π B σ' e.H2 w' → Ext σ s1.H.know w σ' e.H2.know w' → Nx σ s1.H σ' e.H2 → K (a.put e.x.o.dst x) w' := fun σ' x w' hv hS' hE hn =>
        hK _ _ _ _ _ _ _ (hI.act hS hR hT c2 hs1 hd hm hk hA hN hv hS' hE hn)
      have hop := aop_ok (P := P) (o := e.x.o) hπ hA.sr hI.env
      rw [haop] at hop
      rcases hT.on3 hon hk with hr | ⟨f, args, hr, hc⟩
      · rw [hr] at hop
        obtain ⟨σ', x, w', hy, hv, hS', hE, hn⟩ := hop
        exact go x w' hy (next σ' x w' hv hS' hE hn)
      · rw [hr] at hop
        obtain ⟨xs, hx, hl⟩ := hop
        have hh := hcb f args s1.H (by rw [hc]; trivial) σ w xs hA.sr hl
        rw [hc] at hh
        rcases hh with ⟨h1, h2⟩ | ⟨y, w', h1, h2⟩
        · rw [hx, h1, Oper.upon_enter]
          refine h2.mono fun e' w' hr => ?_
          obtain ⟨σ', y, rfl, hv, hS', hE, hn⟩ := hr
          exact next σ' y w' hv hS' hE hn
        · rw [hx, h1, Oper.upon_value]
          obtain ⟨σ', y', h3, hv, hS', hE, hn⟩ := h2
          obtain rfl := Ending.returned.inj h3
          exact next σ' y w' hv hS' hE hn

theorem Inv.any (hπ : ∀ i, (π i).oneCell' = true) (hcb : CbOk π B P cb) (hok : ∀ o ∈ ops.toList, (Option.rec true (fun d => Nat.blt d N) o.dst : Bool) = true) (hS : Stat P ops es) : ∀ (fuel : Nat) (L : Array Bool) (a : Act) (w : World) (pre R : List TE) (s : St) (σ : Sg) (envL : Env),
    Inv π B P cb ops b N n0 es env0 sEnd L a w pre R s σ envL → cnt L.toList ≤ fuel → wpAny P .any ops (Done π B b N .normal sEnd.env sEnd.H) fuel L a w
  | 0, L, a, w, pre, R, s, σ, envL, hI, hc => by
    have hall : ∀ e ∈ es, Ld L e.x.i = true := fun e he => by
      have := cnt_zero L.toList (by omega) e.x.i (by rw [Array.length_toList, hI.size]; exact hS.lt he)
      unfold Ld
      rw [Array.getElem?_toList] at this
      rw [Array.getD_eq_getD_getElem?, this]; rfl
    refine ⟨List.eq_nil_iff_forall_not_mem.2 fun i hi => ?_, hI.fin hS hall⟩
    obtain ⟨h1, h2, _⟩ := (ready_mem hI.size).1 hi
    obtain ⟨e, he, rfl⟩ := hS.all i h1
    rw [hall e he] at h2; simp at h2
  | fuel + 1, L, a, w, pre, R, s, σ, envL, hI, hc => by
    refine ⟨fun h => hI.fin hS (hI.ready hS h), fun i hi => hI.step hπ hcb hok hS hi fun a' w' pre' R' s' σ' envL' hI' => ?_⟩
    refine Inv.any hπ hcb hok hS fuel _ a' w' pre' R' s' σ' envL' hI' ?_
    obtain ⟨h1, h2, _⟩ := (ready_mem hI.size).1 hi
    have h3 : L.toList[i]? = some false := by
      unfold Ld at h2
      rw [Array.getElem?_toList, Array.getElem?_eq_getElem (by rw [hI.size]; exact h1)]
      rw [Array.getD_eq_getD_getElem?, Array.getElem?_eq_getElem (by rw [hI.size]; exact h1)] at h2
      exact congrArg some h2
    have := cnt_set _ _ h3
    rw [Array.toList_setIfInBounds]
    omega

end

theorem map_split {α β : Type} (f : α → β) : ∀ (l1 : List α) (e : α) (l2 : List α), (l1 ++ e :: l2).map f = l1.map f ++ f e :: l2.map f := fun l1 e l2 => by simp

theorem okOrd_split : ∀ {l1 : List It} {x : It} {l2 : List It}, okOrd (l1 ++ x :: l2) = true → has x.m x.i = false ∧ ∀ y ∈ l2, x.i ≠ y.i ∧ has x.m y.i = false ∧ (y.k = 3 → has y.m x.i = true)
  | [], x, l2, h => by
    obtain ⟨h1, h2⟩ := band_true (show band (bnot (has x.m x.i)) (band (okOrd l2) (alls (fun y => band (bnot (Nat.beq x.i y.i)) (band (bnot (has x.m y.i)) (bor (bnot (isAct y)) (has y.m x.i)))) l2)) = true from h)
    obtain ⟨_, h3⟩ := band_true h2
    rw [bnot_eq] at h1
    refine ⟨by simpa using h1, fun y hy => ?_⟩
    obtain ⟨g1, g2⟩ := band_true (alls_mem h3 y hy)
    obtain ⟨g3, g4⟩ := band_true g2
    rw [bnot_eq] at g1 g3
    refine ⟨fun e => by rw [e] at g1; simp at g1, by simpa using g3, fun hk => ?_⟩
    rcases bor_true g4 with g | g
    · rw [bnot_eq, isAct_iff.2 hk] at g; simp at g
    · exact g
  | z :: l1, x, l2, h => by
    obtain ⟨_, h2⟩ := band_true (show band (bnot (has z.m z.i)) (band (okOrd (l1 ++ x :: l2)) (alls (fun y => band (bnot (Nat.beq z.i y.i)) (band (bnot (has z.m y.i)) (bor (bnot (isAct y)) (has y.m z.i)))) (l1 ++ x :: l2))) = true from h)
    exact okOrd_split (band_true h2).1

theorem opsOk_mem {N : Nat} : ∀ {l : List Oper}, opsOk N l = true → ∀ o ∈ l, (Option.rec true (fun d => Nat.blt d N) o.dst : Bool) = true
  | [], _, o, h => by simp at h
  | x :: l, h, o, ho => by
    obtain ⟨h1, h2⟩ := opsOk_cons h
    rcases List.mem_cons.1 ho with rfl | ho
    · exact h1
    · exact opsOk_mem h2 o ho

theorem cnt_rep (n : Nat) : cnt (Array.replicate n false).toList ≤ n := by
  have := cnt_le (Array.replicate n false).toList
  simpa using this

theorem draw_ok (hπ : ∀ i, (π i).oneCell' = true) {cb : Cb} (hcb : CbOk π B P cb) (hm : P.follows .mixedOrders = true) {id : Nat} {ops : Array Oper} {b : Base} {N : Nat} {x : Ex} {env env' : Env} {H H' : Heap} {σ : Sg} {a : Act} {w : World}
    (hok : opsOk N ops.toList = true) (hA : At π B b N σ env H a w) (h : (drawC P ops.toList).run cb env H = .ok x env' H') : (Code.region id ops true).wp P (Done π B b N x env' H') a w := by
  have h : (match band (okAll ops.toList (items P (masks ops.toList []) ops.toList 0)) (band (okOrd (order (filt isAct (items P (masks ops.toList []) ops.toList 0)) (filt (fun x => bnot (isAct x)) (items P (masks ops.toList []) ops.toList 0))))
      (alls (fun x : It => Nat.blt x.m (Nat.pow 2 (len ops.toList))) (items P (masks ops.toList []) ops.toList 0))) with
      | true => (W.rec (motive := fun _ => W (Cb → Env → Heap → R)) (fun k => ⟨fun cb env H => Heap.rec (fun bl n => Bool.rec (.no [29]) (k cb n env ⟨bl, Nat.add n (len ops.toList)⟩ [⟨bl, Nat.add n (len ops.toList)⟩]) (Nat.ble (Nat.add n (len ops.toList)) BIG)) H⟩)
          (drawL P ops.toList (order (filt isAct (items P (masks ops.toList []) ops.toList 0)) (filt (fun x => bnot (isAct x)) (items P (masks ops.toList []) ops.toList 0))) []) : W (Cb → Env → Heap → R))
      | false => ⟨fun _ _ _ => .no [28]⟩).run cb env H = .ok x env' H' := h
  generalize hits : items P (masks ops.toList []) ops.toList 0 = its at h
  generalize hord : order (filt isAct its) (filt (fun x => bnot (isAct x)) its) = ord at h
  cases hc : band (okAll ops.toList its) (band (okOrd ord) (alls (fun x : It => Nat.blt x.m (Nat.pow 2 (len ops.toList))) its)) with
  | false => rw [hc] at h; exact absurd (show R.no [28] = R.ok x env' H' from h) (by simp)
  | true =>
    rw [hc] at h
    obtain ⟨hall, hc2⟩ := band_true hc
    obtain ⟨hor, hbd⟩ := band_true hc2
    obtain ⟨bl, n0⟩ := H
    have h : (Bool.rec (.no [29]) ((drawL P ops.toList ord []).run cb n0 env ⟨bl, n0 + len ops.toList⟩ [⟨bl, n0 + len ops.toList⟩]) (Nat.ble (n0 + len ops.toList) BIG) : R) = .ok x env' H' := h
    cases hb : Nat.ble (n0 + len ops.toList) BIG with
    | false => rw [hb] at h; exact absurd (show R.no [29] = R.ok x env' H' from h) (by simp)
    | true =>
      rw [hb] at h
      have h : (drawL P ops.toList ord []).run cb n0 env ⟨bl, n0 + len ops.toList⟩ [⟨bl, n0 + len ops.toList⟩] = .ok x env' H' := h
      have hmemI : ∀ y, y ∈ ord ↔ y ∈ its := fun y => by
        rw [← hord, order_mem, filt_mem, filt_mem, bnot_eq]
        cases isAct y <;> simp
      have hI : ∀ y ∈ its, ops.toList[y.i]? = some y.o ∧ y.m = M ops.toList y.i ∧ y.k = kindO P y.o := fun y hy => by
        rw [← hits, items_mem] at hy
        obtain ⟨j, o, h1, rfl⟩ := hy
        exact ⟨by simpa using h1, rfl, rfl⟩
      obtain ⟨rfl, es, sEnd, g1, g2, rfl, rfl, _⟩ := draw_tr (P := P) ord ⟨[], env, ⟨bl, n0 + len ops.toList⟩, [⟨bl, n0 + len ops.toList⟩]⟩ (fun y hy => by rw [(hI y ((hmemI y).1 hy)).2.2]; exact kindO_le _) (Nat.le_of_ble_eq_true hb) h
      have hes : ∀ e ∈ es, e.x ∈ its := fun e he => (hmemI _).1 (by rw [← g1]; exact List.mem_map.2 ⟨e, he, rfl⟩)
      have hS : Stat P ops es := by
        refine ⟨fun e he => hI _ (hes e he), fun i hi => ?_, fun e he y hy => ?_, fun l1 e l2 hl => ?_, fun e he j hj => ?_⟩
        · have h1 : (⟨0 + i, kindO P ops[i], Option.rec 0 (fun m => m) (nth (masks ops.toList []) (0 + i)), ops[i]⟩ : It) ∈ its := by
            rw [← hits, items_mem]
            exact ⟨i, ops[i], by simp [hi], rfl⟩
          rw [← hmemI, ← g1] at h1
          obtain ⟨e, he, h2⟩ := List.mem_map.1 h1
          exact ⟨e, he, by rw [h2]; simp⟩
        · exact alls_mem (alls_mem hall _ (hes e he)) _ (hes y hy)
        · rw [← g1, hl, map_split] at hor
          obtain ⟨h1, h2⟩ := okOrd_split hor
          exact ⟨h1, fun y hy => h2 y.x (List.mem_map.2 ⟨y, hy, rfl⟩)⟩
        · have h1 := blt_lt (alls_mem hbd _ (hes e he))
          rw [len_eq, Array.length_toList] at h1
          have h1 : e.x.m < 2 ^ ops.size := h1
          rcases Nat.lt_or_ge j ops.size with h2 | h2
          · exact h2
          · have h3 : Nat.testBit e.x.m j = false := Nat.testBit_lt_two_pow (Nat.lt_of_lt_of_le h1 (Nat.pow_le_pow_right (by decide) h2))
            rw [show has e.x.m j = Nat.testBit e.x.m j from rfl, h3] at hj; simp at hj
      have hn : len ops.toList = ops.size := by rw [len_eq, Array.length_toList]
      have hLd : ∀ i, Ld (Array.replicate ops.size false) i = false := fun i => by
        unfold Ld
        rw [Array.getD_eq_getD_getElem?, Array.getElem?_replicate]
        split <;> rfl
      have hX : Xof n0 (Array.replicate ops.size false) es = fun _ => none := by
        funext c
        cases hx : Xof n0 (Array.replicate ops.size false) es c with
        | none => rfl
        | some o =>
          obtain ⟨y, _, h1, _⟩ := Xof_some hx
          rw [hLd] at h1; simp at h1
      have hkn : ovl (Xof n0 (Array.replicate ops.size false) es) (⟨bl, n0 + len ops.toList⟩ : Heap).know = (⟨bl, n0⟩ : Heap).know := by
        funext c; rw [hX]; exact ovl_k rfl
      have hun : ∀ c, n0 ≤ c → (⟨bl, n0⟩ : Heap).know c = none := fun c hc => by
        cases hx : (⟨bl, n0⟩ : Heap).know c with
        | none => rfl
        | some o =>
          obtain ⟨Lc, h1, _⟩ := hA.sr.rel.obj c o hx
          rw [hA.sr.dom c hc] at h1; simp at h1
      refine wp_region_any hm (Inv.any (es := es) (env0 := env) (n0 := n0) hπ hcb (fun o ho => opsOk_mem hok o ho) hS ops.size _ a _ [] es ⟨[], env, ⟨bl, n0 + len ops.toList⟩, [⟨bl, n0 + len ops.toList⟩]⟩ σ env ?_ (cnt_rep _))
      refine ⟨rfl, g2, ⟨fun e he => by simp at he, fun t _ => rfl⟩, ⟨[], rfl⟩, Nat.le_of_ble_eq_true hb, by simp, fun e he => by simp at he, fun e _ hl => ?_, fun e _ hl => ?_, hA.env, ⟨fun e he => ?_, fun t _ => rfl⟩, ?_, fun c hc => hA.sr.dom c ?_, hA.sr.base, fun e he => ?_, fun e _ => ?_, fun e _ _ => hA.sr.dom _ (Nat.le_add_right _ _), ?_, hA.nx.nx, ?_, hA.tm, hA.df⟩
      · rw [hLd] at hl; simp at hl
      · rw [hLd] at hl; simp at hl
      · have := he.2; rw [hLd] at this; simp at this
      · rw [hkn]; exact hA.sr.rel.same rfl
      · exact Nat.le_trans (Nat.le_add_right _ _) hc
      · have := hS.lt he
        show n0 + e.x.i < n0 + len ops.toList
        omega
      · exact hun _ (Nat.le_add_right _ _)
      · rw [hkn]
        exact ⟨hA.ext.sg, hA.ext.os, hA.ext.tape, hA.ext.output, hA.ext.size, hA.ext.frame, hA.ext.img⟩
      · exact ⟨Nat.le_trans hA.nx.nx (Nat.le_add_right _ _), hA.nx.keep, hA.nx.kn⟩

end
end Go.Proofs.YtlmabmpdbcgabaaDoor.Fast
