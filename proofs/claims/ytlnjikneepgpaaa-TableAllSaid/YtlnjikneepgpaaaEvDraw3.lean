/- For a region that draws its order: what is done and what is not, at any point of any order. -/
import Derived.Test.YtlnjikneepgpaaaEvDraw2
namespace Go.Proofs.Ytlnjikneepgpaaa.Fast
section
variable {π : Nat → Value} {B : Bd} {P : Program}

noncomputable def gp (t : Nat) (v : AV) : Option AV := (getc 3 t).run ((setc 3 t).run Env.emp v)

structure SpecE (env0 : Env) (D : TE → Prop) (env : Env) : Prop where
  w : ∀ e, D e → ∀ t, e.x.o.dst = some t → env.get t = gp t e.v
  n : ∀ t, (∀ e, D e → e.x.o.dst ≠ some t) → env.get t = env0.get t

theorem SpecE.put {env0 env : Env} {D D' : TE → Prop} {e : TE} (h : SpecE env0 D env) (hd : ∀ y, D y → ∀ t, e.x.o.dst = some t → y.x.o.dst ≠ some t) (hD : ∀ y, D' y ↔ D y ∨ y = e) :
    SpecE env0 D' ((putC e.x.o).run env e.v) := by
  unfold putC
  cases hdst : e.x.o.dst with
  | none =>
    refine ⟨fun y hy t ht => ?_, fun t ht => h.n t fun y hy => ht y ((hD y).2 (.inl hy))⟩
    rcases (hD y).1 hy with hy | rfl
    · exact h.w y hy t ht
    · rw [hdst] at ht; simp at ht
  | some d =>
    refine ⟨fun y hy t ht => ?_, fun t ht => ?_⟩
    · rcases (hD y).1 hy with hy | rfl
      · have hne : t ≠ d := fun e1 => hd y hy d hdst (e1 ▸ ht)
        exact (get_set_ne 3 d t env e.v hne).trans (h.w y hy t ht)
      · rw [hdst] at ht
        obtain rfl := Option.some.inj ht
        exact get_set_eq 3 d env Env.emp y.v
    · have hne : t ≠ d := fun e1 => ht e ((hD e).2 (.inr rfl)) (e1 ▸ hdst)
      exact (get_set_ne 3 d t env e.v hne).trans (h.n t fun y hy => ht y ((hD y).2 (.inl hy)))

theorem SpecE.congr {env0 env : Env} {D D' : TE → Prop} (h : SpecE env0 D env) (hD : ∀ y, D' y ↔ D y) : SpecE env0 D' env :=
  ⟨fun y hy => h.w y ((hD y).1 hy), fun t ht => h.n t fun y hy => ht y ((hD y).2 hy)⟩

/-- what has to come before an operation; the late one has to come behind the early one, too -/
noncomputable def ML (all : List Oper) (la ea : Option Nat) (i : Nat) : Nat :=
  match la, ea with
  | some l, some a => if i = l then Nat.lor (M all i) (Nat.lor (2 ^ a) (M all a)) else M all i
  | _, _ => M all i

theorem ML_bit {all : List Oper} {la ea : Option Nat} {i j : Nat} (h : Nat.testBit (ML all la ea i) j = true) : Nat.testBit (M all i) j = true ∨ (la = some i ∧ ∃ a, ea = some a ∧ (j = a ∨ Nat.testBit (M all a) j = true)) := by
  unfold ML at h
  split at h
  · rename_i l a
    split at h
    · rename_i hi
      subst hi
      have h : Nat.testBit (M all i ||| (2 ^ a ||| M all a)) j = true := h
      rw [Nat.testBit_or, Nat.testBit_or, Bool.or_eq_true, Bool.or_eq_true] at h
      rcases h with h | h | h
      · exact .inl h
      · rw [Nat.testBit_two_pow] at h
        exact .inr ⟨rfl, a, rfl, .inl (by simp at h; exact h.symm)⟩
      · exact .inr ⟨rfl, a, rfl, .inr h⟩
    · exact .inl h
  · exact .inl h

theorem ML_edge {all : List Oper} {la ea : Option Nat} {i j : Nat} (h : Nat.testBit (M all i) j = true) : Nat.testBit (ML all la ea i) j = true := by
  unfold ML
  split
  · split
    · show Nat.testBit (M all i ||| (_ ||| _)) j = true
      rw [Nat.testBit_or, h]; rfl
    · exact h
  · exact h

/-- the unmoving facts of a region -/
structure Stat (P : Program) (ops : Array Oper) (es : List TE) (la ea : Option Nat) : Prop where
  mem : ∀ e ∈ es, ops.toList[e.x.i]? = some e.x.o ∧ e.x.m = ML ops.toList la ea e.x.i ∧ e.x.k = kindO P e.x.o
  all : ∀ i, i < ops.size → ∃ e ∈ es, e.x.i = i
  pair : ∀ e ∈ es, ∀ y ∈ es, okPair ops.toList e.x y.x = true
  ord : ∀ l1 e l2, es = l1 ++ e :: l2 → has e.x.m e.x.i = false ∧ ∀ y ∈ l2, e.x.i ≠ y.x.i ∧ has e.x.m y.x.i = false ∧ (y.x.k = 3 → has y.x.m e.x.i = true)
  bnd : ∀ e ∈ es, ∀ j, has e.x.m j = true → j < ops.size

theorem Stat.dst {ops : Array Oper} {es : List TE} {la ea : Option Nat} (h : Stat P ops es la ea) {e y : TE} (he : e ∈ es) (hy : y ∈ es) (hne : e.x.i ≠ y.x.i) {t : Nat} (ht : y.x.o.dst = some t) : e.x.o.dst ≠ some t := fun h2 => by
  have hp := h.pair e he y hy
  unfold okPair at hp
  rcases bor_true hp with hp | hp
  · exact hne (Nat.eq_of_beq_eq_true hp)
  · obtain ⟨_, hp⟩ := band_true hp
    rw [ht] at hp
    have hp : bnot (writes e.x t) = true := hp
    unfold writes at hp
    rw [h2, bnot_eq] at hp
    have hp : (!Nat.beq t t) = true := hp
    simp at hp

theorem Stat.look {ops : Array Oper} {es : List TE} {la ea : Option Nat} (h : Stat P ops es la ea) {e y : TE} (he : e ∈ es) (hy : y ∈ es) (hne : e.x.i ≠ y.x.i) {t : Nat} (ht : y.x.o.dst = some t) (hl : t ∈ looks ops.toList e.x.o) :
    has e.x.m y.x.i = true ∨ has y.x.m e.x.i = true := by
  have hp := h.pair e he y hy
  unfold okPair at hp
  rcases bor_true hp with hp | hp
  · exact absurd (Nat.eq_of_beq_eq_true hp) hne
  · obtain ⟨hp, _⟩ := band_true hp
    rw [ht] at hp
    have hp : bor (ordered e.x y.x) (bnot (memb (looks ops.toList e.x.o) t)) = true := hp
    rcases bor_true hp with hp | hp
    · exact bor_true hp
    · rw [memb_iff.2 hl] at hp; simp [bnot] at hp

theorem mem_split {es : List TE} {e y : TE} (he : e ∈ es) (hy : y ∈ es) : e = y ∨ (∃ l1 l2, es = l1 ++ e :: l2 ∧ y ∈ l2) ∨ (∃ l1 l2, es = l1 ++ y :: l2 ∧ e ∈ l2) := by
  obtain ⟨l1, l2, rfl⟩ := List.append_of_mem he
  rcases List.mem_append.1 hy with h | h
  · obtain ⟨m1, m2, rfl⟩ := List.append_of_mem h
    exact .inr (.inr ⟨m1, m2 ++ e :: l2, by simp, by simp⟩)
  · rcases List.mem_cons.1 h with rfl | h
    · exact .inl rfl
    · exact .inr (.inl ⟨l1, l2, rfl, h⟩)

theorem Stat.uniq {ops : Array Oper} {es : List TE} {la ea : Option Nat} (h : Stat P ops es la ea) {e y : TE} (he : e ∈ es) (hy : y ∈ es) (hi : e.x.i = y.x.i) : e = y := by
  rcases mem_split he hy with h1 | ⟨l1, l2, h1, h2⟩ | ⟨l1, l2, h1, h2⟩
  · exact h1
  · exact absurd hi ((h.ord l1 e l2 h1).2 y h2).1
  · exact absurd hi.symm ((h.ord l1 y l2 h1).2 e h2).1

def Ld (L : Array Bool) (i : Nat) : Bool := L.getD i false

theorem Ld_set {L : Array Bool} {i j : Nat} (hi : i < L.size) : Ld (L.setIfInBounds i true) j = true ↔ j = i ∨ Ld L j = true := by
  unfold Ld
  rw [Array.getD_eq_getD_getElem?, Array.getD_eq_getD_getElem?, Array.getElem?_setIfInBounds]
  by_cases h : i = j
  · subst h; simp [hi]
  · simp [h, Ne.symm h]

/-- what is made and done, of those that are left -/
def Xof (n0 : Nat) (L : Array Bool) : List TE → Know
  | [], _ => none
  | e :: R, b => if Ld L e.x.i = true ∧ e.on = true ∧ e.x.k = 2 ∧ b = n0 + e.x.i then some e.ob else Xof n0 L R b

theorem Xof_some {n0 : Nat} {L : Array Bool} {b : Nat} {o : Obj} : ∀ {R : List TE}, Xof n0 L R b = some o → ∃ e ∈ R, Ld L e.x.i = true ∧ e.on = true ∧ e.x.k = 2 ∧ b = n0 + e.x.i ∧ o = e.ob
  | [], h => by simp [Xof] at h
  | e :: R, h => by
    unfold Xof at h
    split at h
    · rename_i hc
      exact ⟨e, by simp, hc.1, hc.2.1, hc.2.2.1, hc.2.2.2, (Option.some.inj h).symm⟩
    · obtain ⟨y, h1, h2⟩ := Xof_some h
      exact ⟨y, by simp [h1], h2⟩

theorem Xof_of {n0 : Nat} {L : Array Bool} {e : TE} (h1 : Ld L e.x.i = true) (h2 : e.on = true) (h3 : e.x.k = 2) : ∀ {R : List TE}, e ∈ R → (∀ y ∈ R, y.x.i = e.x.i → y = e) → Xof n0 L R (n0 + e.x.i) = some e.ob
  | [], h, _ => by simp at h
  | y :: R, h, hu => by
    unfold Xof
    split
    · rename_i hc
      rw [hu y (by simp) (by omega)]
    · rename_i hc
      rcases List.mem_cons.1 h with rfl | h
      · exact absurd ⟨h1, h2, h3, rfl⟩ hc
      · exact Xof_of h1 h2 h3 h fun z hz => hu z (by simp [hz])

theorem know_put {H : Heap} {c b : Nat} {o u : Obj} (h : (H.put c o).know b = some u) : (b = c ∧ u = o) ∨ (b ≠ c ∧ H.know b = some u) := by
  have hd : u ≠ .dead := fun e => by
    subst e
    unfold Heap.know at h
    split at h
    · simp at h
    · rename_i hh
      exact hh h
  rcases Heap.get_put (know_get h) with ⟨h1, h2⟩ | ⟨h1, h2⟩
  · exact .inl ⟨h1, h2⟩
  · exact .inr ⟨h1, know_of_get h2 hd⟩

/-- the heap behind what does nothing -/
theorem chn_heap {cb : Cb} {all : List Oper} {n0 : Nat} : ∀ {R1 : List TE} {s s1 : St}, Chn P cb all n0 R1 s s1 → (∀ e ∈ R1, e.x.k < 3) →
    s1.H.next = s.H.next ∧ ∀ b o, s1.H.know b = some o → s.H.know b = some o ∨ ∃ e ∈ R1, e.on = true ∧ e.x.k = 2 ∧ b = n0 + e.x.i ∧ o = e.ob
  | [], s, s1, h, _ => by obtain rfl : s = s1 := h; exact ⟨rfl, fun b o h => .inl h⟩
  | e :: R, s, s1, h, hk => by
    obtain ⟨ht, h⟩ := h
    obtain ⟨h1, h2⟩ := chn_heap h fun y hy => hk y (by simp [hy])
    have he : e.H2.next = s.H.next ∧ ∀ b o, e.H2.know b = some o → s.H.know b = some o ∨ (e.on = true ∧ e.x.k = 2 ∧ b = n0 + e.x.i ∧ o = e.ob) := by
      have := hk e (by simp)
      cases hon : e.on with
      | false => rw [(ht.off hon).2]; exact ⟨rfl, fun b o h => .inl h⟩
      | true =>
        rcases (show e.x.k = 0 ∨ e.x.k = 1 ∨ e.x.k = 2 from by omega) with h | h | h
        · rw [(ht.on0 hon h).1]; exact ⟨rfl, fun b o h => .inl h⟩
        · rw [(ht.on1 hon h).1]; exact ⟨rfl, fun b o h => .inl h⟩
        · obtain ⟨f, _, _, g3, g4⟩ := ht.on2 hon h
          rw [g4]
          refine ⟨rfl, fun b o hb => ?_⟩
          rcases know_put hb with ⟨f1, f2⟩ | ⟨_, f2⟩
          · exact .inr ⟨rfl, h, f1, f2.trans g3.symm⟩
          · exact .inl f2
    refine ⟨h1.trans he.1, fun b o hb => ?_⟩
    rcases h2 b o hb with hb | ⟨y, hy, hb⟩
    · rcases he.2 b o hb with hb | hb
      · exact .inl hb
      · exact .inr ⟨e, by simp, hb⟩
    · exact .inr ⟨y, by simp [hy], hb⟩

theorem chn_hs {cb : Cb} {all : List Oper} {n0 : Nat} : ∀ {R1 : List TE} {s s1 : St}, Chn P cb all n0 R1 s s1 →
    ∃ l, s1.hs = l ++ s.hs ∧ s1.acts = s.acts ++ (R1.filter fun e => isAct e.x).map (·.x) ∧ l.length = (R1.filter fun e => isAct e.x).length
  | [], s, s1, h => by obtain rfl : s = s1 := h; exact ⟨[], rfl, by simp, rfl⟩
  | e :: R, s, s1, h => by
    obtain ⟨_, h⟩ := h
    obtain ⟨l, h1, h2, h3⟩ := chn_hs h
    unfold nextS at h1 h2
    cases ha : isAct e.x with
    | false => rw [ha] at h1 h2; exact ⟨l, h1, by simpa [List.filter, ha] using h2, by simpa [List.filter, ha] using h3⟩
    | true =>
      rw [ha] at h1 h2
      refine ⟨l ++ [e.H2], by simpa using h1, ?_, by simp [List.filter, ha, h3]⟩
      rw [h2, app_eq]; simp [List.filter, ha]

theorem chn_env {cb : Cb} {all : List Oper} {n0 : Nat} {ops : Array Oper} {es : List TE} {env0 : Env} {la ea : Option Nat} (hS : Stat P ops es la ea) : ∀ {R1 : List TE} {pre R2 : List TE} {s s1 : St}, es = pre ++ (R1 ++ R2) → Chn P cb all n0 R1 s s1 →
    SpecE env0 (fun e => e ∈ pre) s.env → SpecE env0 (fun e => e ∈ pre ++ R1) s1.env
  | [], pre, R2, s, s1, _, h, hs => by obtain rfl : s = s1 := h; simpa using hs
  | e :: R, pre, R2, s, s1, hes, h, hs => by
    obtain ⟨_, h⟩ := h
    have hes' : es = (pre ++ [e]) ++ (R ++ R2) := by rw [hes]; simp
    refine (chn_env hS hes' h ?_).congr fun y => by simp
    refine hs.put (e := e) (fun y hy t ht => ?_) (fun y => by simp)
    have he : e ∈ es := by rw [hes]; simp
    have hy' : y ∈ es := by rw [hes]; simp [hy]
    refine hS.dst hy' he ?_ ht
    obtain ⟨l1, l2, rfl⟩ := List.append_of_mem hy
    exact ((hS.ord l1 y (l2 ++ e :: (R ++ R2)) (by rw [hes]; simp)).2 e (by simp)).1

structure Inv (π : Nat → Value) (B : Bd) (P : Program) (cb : Cb) (ops : Array Oper) (b : Base) (N n0 : Nat) (es : List TE) (env0 : Env) (s0 sEnd : St) (L : Array Bool) (a : Act) (w : World)
    (pre R : List TE) (s : St) (σ : Sg) (envL : Env) : Prop where
  eqn : es = pre ++ R
  chn : Chn P cb ops.toList n0 R s sEnd
  spec : SpecE env0 (fun e => e ∈ pre) s.env
  hs : ∃ tl, s.hs = s.H :: tl
  nxt : s.H.next ≤ BIG
  size : L.size = ops.size
  preD : ∀ e ∈ pre, Ld L e.x.i = true
  rAct : ∀ e ∈ R, Ld L e.x.i = true → e.x.k ≠ 3
  clo : ∀ e ∈ es, Ld L e.x.i = true → ∀ j, has e.x.m j = true → Ld L j = true
  env : EnvR π σ envL a
  specL : SpecE env0 (fun e => e ∈ es ∧ Ld L e.x.i = true) envL
  rel : Rel π B σ (ovl (Xof n0 L R) s.H.know) w
  dom : ∀ c, s.H.next ≤ c → σ c = none
  base : B.n ≤ w.heap.size
  res : ∀ e ∈ es, n0 + e.x.i < s.H.next
  unk : ∀ e ∈ R, s.H.know (n0 + e.x.i) = none
  sn : ∀ e ∈ R, Ld L e.x.i = false → σ (n0 + e.x.i) = none
  ext : Ext b.σ b.h.know b.w σ (ovl (Xof n0 L R) s.H.know) w
  bn : b.h.next ≤ n0
  nx : Nx b.σ b.h σ s.H
  tm : N ≤ a.tmps.size
  df : a.defers = b.d
  chP : Chn P cb ops.toList n0 pre s0 s
  preA : pre = [] ∨ ∃ p e, pre = p ++ [e] ∧ e.x.k = 3

section
variable {cb : Cb} {ops : Array Oper} {b : Base} {N n0 : Nat} {es : List TE} {env0 : Env} {s0 sEnd : St} {L : Array Bool} {a : Act} {w : World} {pre R : List TE} {s : St} {σ : Sg} {envL : Env}

theorem Inv.split (hI : Inv π B P cb ops b N n0 es env0 s0 sEnd L a w pre R s σ envL) {la ea : Option Nat} (hS : Stat P ops es la ea) {e : TE} (he : e ∈ es) (hd : Ld L e.x.i = false) :
    ∃ R1 R2 s1, R = R1 ++ e :: R2 ∧ Chn P cb ops.toList n0 R1 s s1 ∧ TEok P cb ops.toList n0 e s1 ∧ Chn P cb ops.toList n0 R2 (nextS e s1) sEnd ∧ SpecE env0 (fun y => y ∈ pre ++ R1) s1.env := by
  rw [hI.eqn] at he
  rcases List.mem_append.1 he with h | h
  · rw [hI.preD e h] at hd; simp at hd
  · obtain ⟨R1, R2, rfl⟩ := List.append_of_mem h
    obtain ⟨s1, h1, h2, h3⟩ := Chn.app hI.chn
    exact ⟨R1, R2, s1, rfl, h1, h2, h3, chn_env hS hI.eqn h1 hI.spec⟩

theorem Inv.looks (hI : Inv π B P cb ops b N n0 es env0 s0 sEnd L a w pre R s σ envL) {la ea : Option Nat} (hS : Stat P ops es la ea) {e : TE} {R1 R2 : List TE} {s1 : St} (hR : R = R1 ++ e :: R2) (hd : Ld L e.x.i = false)
    (hm : ∀ j, has e.x.m j = true → Ld L j = true) (hs1 : SpecE env0 (fun y => y ∈ pre ++ R1) s1.env) : ∀ t ∈ looks ops.toList e.x.o, envL.get t = s1.env.get t := by
  intro t ht
  have hes : es = (pre ++ R1) ++ e :: R2 := by rw [hI.eqn, hR]; simp
  have he : e ∈ es := by rw [hes]; simp
  by_cases hw : ∃ y ∈ es, y.x.o.dst = some t
  · obtain ⟨y, hy, hyt⟩ := hw
    cases hyd : Ld L y.x.i with
    | true =>
      rw [hI.specL.w y ⟨hy, hyd⟩ t hyt]
      have hne : e.x.i ≠ y.x.i := fun h => by rw [h, hyd] at hd; simp at hd
      refine (hs1.w y ?_ t hyt).symm
      have hy2 := hy
      rw [hes] at hy2
      rcases List.mem_append.1 hy2 with h | h
      · exact h
      · rcases List.mem_cons.1 h with rfl | h
        · exact absurd rfl hne
        · obtain ⟨_, g2, _⟩ := (hS.ord _ _ _ hes).2 y h
          rcases hS.look he hy hne hyt ht with g | g
          · rw [g2] at g; simp at g
          · rw [hI.clo y hy hyd _ g] at hd; simp at hd
    | false =>
      have key : ∀ z ∈ es, z.x.o.dst = some t → z.x.i = y.x.i := fun z hz hzt => by
        by_cases h : z.x.i = y.x.i
        · exact h
        · exact absurd hzt (hS.dst hz hy h hyt)
      rw [hI.specL.n t fun z hz hzt => by rw [key z hz.1 hzt, hyd] at hz; simp at hz, hs1.n t]
      intro z hz hzt
      have hze : z ∈ es := by rw [hes]; exact List.mem_append_left _ hz
      have hzi := key z hze hzt
      rcases List.mem_append.1 hz with h | h
      · have := hI.preD z h; rw [hzi, hyd] at this; simp at this
      · obtain ⟨l1, l2, rfl⟩ := List.append_of_mem h
        obtain ⟨g1, g2, _⟩ := (hS.ord (pre ++ l1) z (l2 ++ e :: R2) (by rw [hes]; simp)).2 e (by simp)
        rcases hS.look he hze (Ne.symm g1) hzt ht with g | g
        · have := hm _ g; rw [hzi, hyd] at this; simp at this
        · rw [g2] at g; simp at g
  · rw [hI.specL.n t fun z hz hzt => hw ⟨z, hz.1, hzt⟩, hs1.n t fun z hz hzt => hw ⟨z, by rw [hes]; exact List.mem_append_left _ hz, hzt⟩]

end
end
end Go.Proofs.Ytlnjikneepgpaaa.Fast
