/- Each operation of the second run does what the model's does. -/
import Derived.Test.YtlnjikneepgpaaaEvRel
import Derived.Laws.Slices
import Derived.Laws.Append
import Derived.Laws.Strings
import Derived.Tactics
import Derived.LaidEqlPtr
import Derived.Lib.UnsafeStr
import Derived.Lib.Builder
import Derived.Laws.BytesArg
namespace Go.Proofs.Ytlnjikneepgpaaa.Fast

def Yl (P : Program) (o : Oper) (a : Act) (w : World) (x : Value) (w' : World) : Prop :=
  (execOp a.eval o).run P w = .ok (.value x) w' ∨ ((execOp a.eval o).run P w = .ok .skip w' ∧ x = undef)

/-- what the run says of an operation, the model's does -/
def OpOk (π : Nat → Value) (B : Bd) (σ : Sg) (P : Program) (o : Oper) (a : Act) (H : Heap) (w : World) : OR → Prop
  | .val v H' => ∃ σ' x w', Yl P o a w x w' ∧ VR π σ' v x ∧ SR π B σ' H' w' ∧ Ext σ H.know w σ' H'.know w' ∧ Nx σ H σ' H'
  | .call f args => ∃ xs : Array Value, (execOp a.eval o).run P w = (callFunc f xs).run P w ∧ VRL π σ args xs.toList
  | .pan v H' => ∃ σ' x w', (execOp a.eval o).run P w = .halt (.panic x) w' ∧ VR π σ' v x ∧ SR π B σ' H' w' ∧ Ext σ H.know w σ' H'.know w' ∧ Nx σ H σ' H'
  | .no => True

section
variable {π : Nat → Value} {B : Bd} {σ : Sg} {P : Program} {o : Oper} {a : Act} {H : Heap} {w : World}

theorem OpOk.ob {α : Type} {x : Option α} {f : α → OR} (h : ∀ v, x = some v → OpOk π B σ P o a H w (f v)) : OpOk π B σ P o a H w (ob x f) := by
  cases x with
  | none => trivial
  | some v => exact h v rfl

theorem OpOk.oi {b : Bool} {x : OR} (h : b = true → OpOk π B σ P o a H w x) : OpOk π B σ P o a H w (oi b x) := by
  cases b with
  | false => trivial
  | true => exact h rfl

theorem OpOk.vo {x : Option AV} (h : ∀ v, x = some v → OpOk π B σ P o a H w (.val v H)) : OpOk π B σ P o a H w (vo H x) := by
  cases x with
  | none => trivial
  | some v => exact h v rfl

/-- nothing but a value -/
theorem OpOk.pure (hS : SR π B σ H w) {v : AV} {x : Value} (h : (execOp a.eval o).run P w = .ok (.value x) w) (hv : VR π σ v x) : OpOk π B σ P o a H w (.val v H) :=
  ⟨σ, x, w, .inl h, hv, hS, Ext.refl _ _ _, Nx.refl _ _⟩

theorem sizeT_some {t n : Nat} (h : sizeT P t = some n) : ∃ i, P.info? t = some i ∧ i.size = n := by
  obtain ⟨i, h1, h2⟩ := obind_some (show obind (P.info? t) (fun i => some i.size) = some n from h)
  exact ⟨i, h1, Option.some.inj h2⟩

theorem run_typeInfo {t : Nat} {i : TypeInfo} (h : P.info? t = some i) (w : World) : (typeInfo t).run P w = .ok i w := by simp [typeInfo, h]

theorem run_sizeOf {t n : Nat} (h : sizeT P t = some n) (w : World) : (sizeOf t).run P w = .ok n w := by
  obtain ⟨i, h1, h2⟩ := sizeT_some h
  simp [sizeOf, run_typeInfo h1, h2]

theorem zeroT_some {t : Nat} {z : AV} (h : zeroT P t = some z) : ∃ i v, P.info? t = some i ∧ i.zero = some v ∧ ofV v = some z := by
  obtain ⟨i, h1, h2⟩ := obind_some (show obind (P.info? t) (fun i => obind i.zero ofV) = some z from h)
  obtain ⟨v, h3, h4⟩ := obind_some h2
  exact ⟨i, v, h1, h3, h4⟩

theorem run_zero {t : Nat} {z : AV} (h : zeroT P t = some z) : ∃ v, (∀ w, (zeroValue t).run P w = .ok v w) ∧ ∀ π σ, VR π σ z v := by
  obtain ⟨i, v, h1, h2, h3⟩ := zeroT_some h
  exact ⟨v, fun w => by simp [zeroValue, run_typeInfo h1, h2], fun π σ => ofV_VR h3⟩

theorem aggT_some {t : Nat} {b : Bool} (h : aggT P t = some b) : ∃ d, P.underlying t = some d ∧ aggD d = b := by
  obtain ⟨d, h1, h2⟩ := obind_some (show obind (P.underlying t) (fun d => some (aggD d)) = some b from h)
  exact ⟨d, h1, Option.some.inj h2⟩

theorem run_isAgg {t : Nat} {b : Bool} (h : aggT P t = some b) (w : World) : (isAgg t).run P w = .ok b w := by
  obtain ⟨d, h1, h2⟩ := aggT_some h
  cases d <;> simp [isAgg, run_underlying h1] <;> simpa [aggD] using h2

theorem ld_run (hS : SR π B σ H w) {t : Nat} {b off : Nat} {v : AV} (h : (ldT P t).run H (b, off) = some v) {L : Loc} (hL : σ b = some L) :
    ∃ x, (loadVar t ⟨L.blk, L.sh + off, none⟩).run P w = .ok x w ∧ VR π σ v x := by
  unfold ldT at h
  split at h
  · rename_i n h1 h2
    obtain ⟨l, h3, h4⟩ := obind_some (show obind (rd H b off n) (fun l => some (.agg l)) = some v from h)
    obtain rfl := Option.some.inj h4
    obtain ⟨xs, k1, k2, k3⟩ := rd_run hS h3 hL
    refine ⟨.agg xs.toArray, ?_, .agg _ _ (by simpa using k2)⟩
    have := run_loadCells_list (P := P) w ⟨L.blk, L.sh + off, none⟩ xs k3
    rw [k1] at this
    simp [loadVar, run_isAgg h1, run_sizeOf h2, this]
  · rename_i h1
    obtain ⟨x, k1, k2⟩ := rd1_run hS (show rd1 H b off = some v from h) hL
    exact ⟨x, by simp [loadVar, run_isAgg h1, k2], k1⟩
  · exact absurd (show none = some v from h) (by simp)

theorem ptrOf_some {v : AV} {p : Nat × Nat} (h : ptrOf v = some p) : v = .ptr p.1 p.2 := by
  unfold ptrOf at h
  split at h
  · obtain rfl := Option.some.inj h; rfl
  · exact absurd h (by simp)

theorem VR.ptr_inv {b off : Nat} {x : Value} (h : VR π σ (.ptr b off) x) : ∃ L, σ b = some L ∧ x = .pointer (some ⟨L.blk, L.sh + off, none⟩) := by
  cases h with
  | ptr _ _ L e => exact ⟨L, e, rfl⟩

theorem aLoad_ok (hS : SR π B σ H w) {env : Env} (he : EnvR π σ env a) {t : Nat} {ad : Operand} (ho : o.op = .load t ad) : OpOk π B σ P o a H w ((aLoad P t ad).run env H) :=
  OpOk.ob fun v hv => OpOk.ob fun p hp => OpOk.vo fun u hu => by
    obtain ⟨L, hL, hx⟩ := VR.ptr_inv (ptrOf_some hp ▸ gop_VR he hv)
    obtain ⟨x, h1, h2⟩ := ld_run hS (b := p.1) (off := p.2) hu hL
    exact OpOk.pure hS (by simp [execOp, ho, hx, Instr.loadAt, Instr.sureAddr, h1]) h2

theorem cells_array {x : Value} : x.cells = x.cells.toList.toArray := by simp

theorem st_run (hπ : ∀ i, (π i).oneCell' = true) (hS : SR π B σ H w) {t b off : Nat} {v : AV} {H' : Heap} (h : (stT P t).run H (b, off) v = some H') {L : Loc} (hL : σ b = some L) {x : Value} (hx : VR π σ v x) :
    ∃ w', (storeVar t ⟨L.blk, L.sh + off, none⟩ x).run P w = .ok () w' ∧ SR π B σ H' w' ∧ Ext σ H.know w σ H'.know w' ∧ Nx σ H σ H' := by
  unfold stT at h
  split at h
  · rename_i n h1
    obtain ⟨h2, h3⟩ := oif_some (show oif (Nat.beq (len v.cells) n) (oif (allb v.cells) (wr H b off v.cells)) = some H' from h)
    obtain ⟨h4, h5⟩ := oif_some h3
    have hc := VR.cells hπ hx
    have hl : x.cells.size = n := by
      have := hc.length
      rw [Array.length_toList] at this
      rw [this, ← len_eq]; exact Nat.eq_of_beq_eq_true h2
    obtain ⟨w', k1, k2, k3, k4⟩ := wr_run P hS h5 hL hc (fun y hy => by
      obtain ⟨i, hi⟩ := List.getElem?_of_mem hy
      have hlt : i < v.cells.length := by
        rcases Nat.lt_or_ge i v.cells.length with h' | h'
        · exact h'
        · rw [List.getElem?_eq_none (by rw [hc.length]; exact h')] at hi; simp at hi
      obtain ⟨y', e1, e2⟩ := hc.get i _ (List.getElem?_eq_getElem hlt)
      obtain rfl : y = y' := by rw [e1] at hi; exact (Option.some.inj hi).symm
      exact VR.oneCell hπ e2 (allb_mem h4 _ (List.getElem_mem hlt)))
    exact ⟨w', by simp [storeVar, run_sizeOf h1, hl, k1], k2, k3, k4⟩
  · exact absurd (show none = some H' from h) (by simp)

theorem undef_VR : VR π σ (.tuple []) undef := .tuple _ _ .nil

theorem aStore_ok (hπ : ∀ i, (π i).oneCell' = true) (hS : SR π B σ H w) {env : Env} (he : EnvR π σ env a) {t : Nat} {ad x : Operand} (ho : o.op = .store t ad x) : OpOk π B σ P o a H w ((aStore P t ad x).run env H) :=
  OpOk.ob fun v hv => OpOk.ob fun p hp => OpOk.ob fun u hu => by
    cases hH : (stT P t).run H p u with
    | none => trivial
    | some H' =>
      obtain ⟨L, hL, hx⟩ := VR.ptr_inv (ptrOf_some hp ▸ gop_VR he hv)
      obtain ⟨w', h1, h2, h3, h4⟩ := st_run hπ hS (b := p.1) (off := p.2) hH hL (gop_VR he hu)
      exact ⟨σ, undef, w', .inr ⟨by simp [execOp, ho, hx, Instr.storeAt, Instr.sureAddr, h1], rfl⟩, undef_VR, h2, h3, h4⟩

/-- a new row of cells -/
theorem typ3 (e : Nat) (n m : Nat) (k : Nat) (h : n = m) : ElemR (typ 3 e) e ⟨k, 0, n⟩ m := by
  have h1 : typ 3 e = 4 * e + 3 := rfl
  exact ⟨fun _ => by show @Eq Nat e (typ 3 e / 4); omega, fun _ => rfl, fun _ => h⟩
theorem typ2 (e : Nat) (L : Loc) (m : Nat) (h : L.sh = 0) : ElemR (typ 2 e) e L m := by
  have h1 : typ 2 e = 4 * e + 2 := rfl
  exact ⟨fun _ => by show @Eq Nat e (typ 2 e / 4); omega, fun _ => h, fun _ => by omega⟩
theorem typ0 (e : TypeId) (L : Loc) (m : Nat) : ElemR 0 e L m := ⟨fun h => absurd h (by decide), fun h => absurd h (by decide), fun h => absurd h (by decide)⟩

theorem new_ok (hS : SR π B σ H w) (l : List AV) (elem : Nat) (xs : Array Value) (e : TypeId) (hx : VRL π σ l xs.toList) (hee : e = elem := by rfl) :
    ∃ σ', σ' H.next = some ⟨w.heap.size, 0, xs.size⟩ ∧ SR π B σ' (newRow H l elem) (w.alloc (.cells xs e)) ∧ Ext σ H.know w σ' (newRow H l elem).know (w.alloc (.cells xs e)) ∧ Nx σ H σ' (newRow H l elem) := by
  have := SR.new (w' := w.alloc (.cells xs e)) hS (.row l (typ 3 elem) 0 0) ⟨w.heap.size, 0, xs.size⟩ rfl (fun k hk => heap_alloc_old w _ k hk) (by simp) ⟨rfl, rfl, rfl⟩
    (fun σ' hs => ⟨xs, e, (0, 0), heap_alloc_new w _, rfl, ⟨by simp [← hx.length], fun i v hv => by
      obtain ⟨x, h1, h2⟩ := hx.get i v hv
      exact ⟨x, by simpa using h1, h2.mono hs⟩⟩, FrzR.no _ _ _ _, by
        subst hee
        exact typ3 e _ _ _ (by rw [← hx.length, Array.length_toList])⟩)
  exact this

theorem run_newVar (e : TypeId) (x : Value) (w : World) : (newVar e x).run P w = .ok ⟨w.heap.size, 0, none⟩ (w.alloc (.cells x.cells e)) := by
  simp [newVar, Go.newRow]

theorem box_ok (hπ : ∀ i, (π i).oneCell' = true) (hS : SR π B σ H w) {v : AV} {x : Value} (hx : VR π σ v x) (e : Nat)
    (hr : (execOp a.eval o).run P w = .ok (.value (.pointer (some ⟨w.heap.size, 0, none⟩))) (w.alloc (.cells x.cells e))) :
    OpOk π B σ P o a H w (.val (.ptr H.next 0) (newRow H v.cells e)) := by
  obtain ⟨σ', h1, h2, h3, h4⟩ := new_ok hS v.cells e x.cells e (VR.cells hπ hx)
  exact ⟨σ', _, _, .inl hr, .ptr _ _ _ h1, h2, h3, h4⟩

theorem aAlloc_ok (hπ : ∀ i, (π i).oneCell' = true) (hS : SR π B σ H w) {env : Env} {e : Nat} (ho : o.op = .alloc e) : OpOk π B σ P o a H w ((aAlloc P e).run env H) := by
  unfold aAlloc
  split
  · rename_i z hz
    obtain ⟨v, h1, h2⟩ := run_zero hz
    exact box_ok hπ hS (h2 π σ) e (by simp [execOp, ho, Instr.alloc, h1, run_newVar])
  · trivial

theorem aBox_ok (hπ : ∀ i, (π i).oneCell' = true) (hS : SR π B σ H w) {env : Env} (he : EnvR π σ env a) {e : Nat} {x : Operand} (ho : o.op = .box e x) :
    OpOk π B σ P o a H w (ob ((gop x).run env) fun v => .val (.ptr H.next 0) (newRow H v.cells e)) :=
  OpOk.ob fun v hv => box_ok hπ hS (gop_VR he hv) e (by simp [execOp, ho, Instr.box, run_newVar])


/- structs, arrays -/
theorem over_foldl (vs : List Value) (ws : List AV) (hvs : VRL π σ ws vs) : ∀ (cells : Array Value) (l l' : List AV) (off : Nat), VRL π σ l cells.toList → over ws l off = some l' →
    VRL π σ l' (vs.zipIdx.foldl (fun cs (c, j) => cs.setIfInBounds (off + j) c) cells).toList := by
  intro cells l l' off hl ho
  obtain ⟨h1, h2, h3⟩ := over_some ws l ho
  have hlen := hvs.length
  have hcl := hl.length
  have key : ∀ (vs : List Value) (k : Nat) (cells : Array Value), (vs.zipIdx k |>.foldl (fun cs (c, j) => cs.setIfInBounds (off + j) c) cells).size = cells.size ∧
      ∀ j, (vs.zipIdx k |>.foldl (fun cs (c, j) => cs.setIfInBounds (off + j) c) cells)[j]? = if off + k ≤ j ∧ j < off + k + vs.length ∧ j < cells.size then vs[j - (off + k)]? else cells[j]? := by
    intro vs
    induction vs with
    | nil => intro k cells; exact ⟨rfl, fun j => by simp; intro h4 h5; omega⟩
    | cons v r ih =>
      intro k cells
      obtain ⟨e1, e2⟩ := ih (k + 1) (cells.setIfInBounds (off + k) v)
      refine ⟨by simpa using e1, fun j => ?_⟩
      simp only [List.zipIdx_cons, List.foldl_cons]
      rw [e2 j]
      simp only [Array.size_setIfInBounds, List.length_cons]
      by_cases hj : off + (k + 1) ≤ j ∧ j < off + (k + 1) + r.length ∧ j < cells.size
      · rw [if_pos hj, if_pos (by omega), show j - (off + k) = (j - (off + (k + 1))) + 1 by omega]; simp
      · rw [if_neg hj]
        by_cases hjo : j = off + k
        · subst hjo
          by_cases hc : off + k < cells.size
          · rw [if_pos (by omega)]; simp [hc]
          · rw [if_neg (by omega)]; simp [hc]
        · rw [if_neg (by omega)]; simp [Ne.symm hjo]
  obtain ⟨k1, k2⟩ := key vs 0 cells
  refine VRL.of _ _ (by rw [Array.length_toList, k1, h2, ← hcl, Array.length_toList]) fun i v hv => ?_
  rw [h3 i] at hv
  have hi : i < cells.size := by
    rw [← Array.length_toList, hcl]
    by_cases hc : off ≤ i ∧ i < off + ws.length
    · omega
    · rw [if_neg hc] at hv
      rcases Nat.lt_or_ge i l.length with h' | h'
      · exact h'
      · rw [List.getElem?_eq_none h'] at hv; simp at hv
  rw [Array.getElem?_toList, k2 i]
  by_cases hc : off ≤ i ∧ i < off + ws.length
  · rw [if_pos hc] at hv
    rw [if_pos (by omega)]
    exact hvs.get _ _ hv
  · rw [if_neg hc] at hv
    rw [if_neg (by omega)]
    obtain ⟨x, e1, e2⟩ := hl.get _ _ hv
    exact ⟨x, by simpa using e1, e2⟩

def PartsR (π : Nat → Value) (σ : Sg) : List (Nat × AV) → List (Nat × Value) → Prop
  | [], [] => True
  | (i, v) :: l, (j, x) :: m => i = j ∧ VR π σ v x ∧ PartsR π σ l m
  | _, _ => False

theorem fill_ok (hπ : ∀ i, (π i).oneCell' = true) (place : Nat → Option (Nat × Nat)) : ∀ (ps : List (Nat × AV)) (qs : List (Nat × Value)) (l l' : List AV) (C : Array Value), PartsR π σ ps qs → VRL π σ l C.toList →
    fillA place ps l = some l' → ∃ C', Instr.fill place C qs = some C' ∧ VRL π σ l' C'.toList
  | [], [], l, l', C, _, hl, h => by
    obtain rfl := Option.some.inj (show some l = some l' from h)
    exact ⟨C, rfl, hl⟩
  | (i, v) :: ps, (j, x) :: qs, l, l', C, ⟨hij, hv, hr⟩, hl, h => by
    subst hij
    obtain ⟨q, h1, h2⟩ := obind_some (show obind (place i) (fun q => oif (Nat.beq (len v.cells) q.2) (obind (over v.cells l q.1) (fillA place ps))) = some l' from h)
    obtain ⟨h3, h4⟩ := oif_some h2
    obtain ⟨l1, h5, h6⟩ := obind_some h4
    have hc := VR.cells hπ hv
    have hsz : x.cells.size = q.2 := by
      have := hc.length
      rw [Array.length_toList] at this
      rw [this, ← len_eq]; exact Nat.eq_of_beq_eq_true h3
    obtain ⟨k1, _, _⟩ := over_some _ _ h5
    have hlc := hl.length
    have hcc := hc.length
    rw [Array.length_toList] at hlc hcc
    obtain ⟨C', e1, e2⟩ := fill_ok hπ place ps qs l1 l' _ hr (over_foldl x.cells.toList v.cells hc C l l1 q.1 hl h5) h6
    refine ⟨C', ?_, e2⟩
    obtain ⟨q1, q2⟩ := q
    simp only [Instr.fill, h1]
    rw [if_neg (by simp at hsz; simp [hsz]; omega)]
    rw [← e1]
    congr 1
    rw [← Array.foldl_toList]
    congr 1
    exact Array.toList_zipIdx.symm ▸ rfl
  | [], _ :: _, _, _, _, h, _, _ => h.elim
  | _ :: _, [], _, _, _, h, _, _ => h.elim

theorem parts_ok {env : Env} (he : EnvR π σ env a) : ∀ {l : List (Nat × Operand)} {m : List (Nat × AV)}, (parts l).run env = some m → PartsR π σ m (l.map fun p => (p.1, a.eval p.2))
  | [], m, h => by obtain rfl := Option.some.inj (show some [] = some m from h); trivial
  | (i, x) :: t, m, h => by
    obtain ⟨v, h1, h2⟩ := obind_some (show obind ((gop x).run env) (fun v => obind ((parts t).run env) fun l => some ((i, v) :: l)) = some m from h)
    obtain ⟨l, h3, h4⟩ := obind_some h2
    obtain rfl := Option.some.inj h4
    exact ⟨rfl, gop_VR he h1, parts_ok he h3⟩

theorem run_places : ∀ {l : List Field} {ps : List (Nat × Nat)}, fieldPlaces P l = some ps → ∀ w, (l.mapM fun f => (Prod.mk f.offset <$> sizeOf f.type : Sem (Nat × Nat))).run P w = .ok ps w
  | [], ps, h, w => by obtain rfl := Option.some.inj (show some [] = some ps from h); simp
  | f :: t, ps, h, w => by
    obtain ⟨n, h1, h2⟩ := obind_some (show obind (sizeT P f.type) (fun n => obind (fieldPlaces P t) fun l => some ((f.offset, n) :: l)) = some ps from h)
    obtain ⟨l, h3, h4⟩ := obind_some h2
    obtain rfl := Option.some.inj h4
    have ih := run_places h3
    simp [List.mapM_cons, run_sizeOf h1, ih]

theorem aBuild_ok (hπ : ∀ i, (π i).oneCell' = true) (hS : SR π B σ H w) {env : Env} (he : EnvR π σ env a) {t : Nat} {ps : Array (Nat × Operand)} (ho : o.op = .build t ps) : OpOk π B σ P o a H w ((aBuild P t ps.toList).run env H) := by
  unfold aBuild
  split
  · rename_i z pl hz hpl
    refine OpOk.ob fun l hl => OpOk.ob fun cs hcs => ?_
    obtain ⟨v, h1, h2⟩ := run_zero hz
    have hp := parts_ok he hl
    have hzc := VR.cells hπ (h2 π σ)
    unfold placesT at hpl
    split at hpl
    · rename_i fields hu
      obtain ⟨pls, h3, h4⟩ := obind_some hpl
      obtain rfl := Option.some.inj h4
      obtain ⟨C', e1, e2⟩ := fill_ok hπ (nth pls) l _ z.cells cs v.cells hp hzc hcs
      refine OpOk.pure hS (x := .agg C') ?_ (.agg _ _ e2)
      have e3 : Instr.fill (fun i => pls[i]?) v.cells (ps.toList.map fun p => (p.1, a.eval p.2)) = some C' := by
        rw [← e1]; congr 1; funext i; exact (nth_eq pls i).symm
      have hm : ∀ w, (fields.mapM fun f => (Prod.mk f.offset <$> sizeOf f.type : Sem (Nat × Nat))).run P w = .ok pls.toArray w := fun w => by
        rw [Array.mapM_eq_mapM_toList]; simp [run_places h3]
      simp [execOp, ho, Instr.build, h1, run_underlying hu, hm, e3]
    · rename_i n elem hu
      obtain ⟨sz, h3, h4⟩ := obind_some hpl
      obtain rfl := Option.some.inj h4
      obtain ⟨C', e1, e2⟩ := fill_ok hπ _ l _ z.cells cs v.cells hp hzc hcs
      refine OpOk.pure hS (x := .agg C') ?_ (.agg _ _ e2)
      have e3 : Instr.fill (fun i => some (i * sz, sz)) v.cells (ps.toList.map fun p => (p.1, a.eval p.2)) = some C' := e1
      simp [execOp, ho, Instr.build, h1, run_underlying hu, run_sizeOf h3, e3]
    · exact absurd hpl (by simp)
  · trivial

theorem elemS_some {t e : Nat} (h : elemS P t = some e) : P.underlying t = some (.slice e) := by
  unfold elemS at h
  split at h
  · rename_i e' hu; obtain rfl := Option.some.inj h; exact hu
  · exact absurd h (by simp)

theorem aBuildSlice_ok (hπ : ∀ i, (π i).oneCell' = true) (hS : SR π B σ H w) {env : Env} (he : EnvR π σ env a) {t n : Nat} {ps : Array (Nat × Operand)} (ho : o.op = .buildSlice t n ps) :
    OpOk π B σ P o a H w ((aBuildSlice P t n ps.toList).run env H) := by
  unfold aBuildSlice
  split
  · rename_i elem hel
    split
    · rename_i size z hs hz hn
      split
      · rename_i hc1 hc2 hc3
        refine OpOk.ob fun l hl => OpOk.ob fun cs hcs => ?_
        obtain ⟨v, h1, h2⟩ := run_zero hz
        have hzc := VR.cells hπ (h2 π σ)
        have hzl : z.cells.length = size := by rw [← len_eq]; exact Nat.eq_of_beq_eq_true hc1
        have hvl : v.cells.size = size := by rw [← hzl, ← hzc.length, Array.length_toList]
        have hle := Nat.le_of_ble_eq_true hc3
        have hpos : 0 < size := by have := hc2; simp [Nat.blt] at this; omega
        have hnpos : 0 < n := by have := hn; simp [Nat.blt] at this; omega
        have h0 : VRL π σ (rep z.cells n) (((Array.range (n * size)).map (v.cells[· % v.cells.size]!)).toList) := by
          refine VRL.of _ _ (by simp [rep_length, hzl]) fun i u hu => ?_
          have hi : i < n * z.cells.length := by
            rcases Nat.lt_or_ge i (n * z.cells.length) with h' | h'
            · exact h'
            · rw [List.getElem?_eq_none (by rw [rep_length]; exact h')] at hu; simp at hu
          rw [rep_get _ _ _ hi] at hu
          obtain ⟨x, e1, e2⟩ := hzc.get _ _ hu
          refine ⟨x, ?_, e2⟩
          rw [hzl] at hi e1
          have e1' : v.cells[i % size]? = some x := by simpa using e1
          simp [hi, hvl, Array.getElem!_eq_getD, Array.getD_eq_getD_getElem?, e1']
        obtain ⟨C', e1, e2⟩ := fill_ok hπ _ l _ _ cs _ (parts_ok he hl) h0 hcs
        have e3 : Instr.fill (fun i => some (i * size, size)) ((Array.range (n * size)).map (v.cells[· % v.cells.size]!)) (ps.toList.map fun p => (p.1, a.eval p.2)) = some C' := e1
        obtain ⟨σ', k1, k2, k3, k4⟩ := new_ok hS cs elem C' elem e2
        refine ⟨σ', .slice (some ⟨w.heap.size, 0, none⟩) n n, _, .inl ?_, ?_, k2, k3, k4⟩
        · have hle' : n * size ≤ 1000000 := hle
          have hz0 : ¬ (n * size > 16777216) := by omega
          have hz1 : n * size ≠ 0 := Nat.ne_of_gt (Nat.mul_pos hnpos hpos)
          simp only [execOp, ho, Instr.buildSlice, Sem.run_bind, run_underlying (elemS_some hel), Result.andThen_ok, run_sizeOf hs]
          rw [if_neg hz0]
          simp [hz1, h1, Go.newRow, e3]
        · have := VR.slice (π := π) (σ := σ') H.next 0 n n _ k1
          exact this
      · trivial
    · rename_i size z hs hz hn
      split
      · rename_i hps
        have hn0 : n = 0 := by
          rcases Nat.eq_zero_or_pos n with h | h
          · exact h
          · rw [show Nat.blt 0 n = true from Nat.ble_eq_true_of_le h] at hn; simp at hn
        subst hn0
        obtain ⟨σ', k1, k2, k3, k4⟩ := new_ok hS [] elem #[] elem .nil
        refine ⟨σ', .slice (some ⟨w.heap.size, 0, none⟩) 0 0, _, .inl ?_, ?_, k2, k3, k4⟩
        · simp only [execOp, ho, Instr.buildSlice, Sem.run_bind, run_underlying (elemS_some hel), Result.andThen_ok, run_sizeOf hs]
          have hps' : ps = #[] := by obtain ⟨ps⟩ := ps; simpa using hps
          subst hps'
          simp [Go.newRow, Instr.fill, show Array.range 0 = #[] from rfl]
        · exact VR.slice (π := π) (σ := σ') H.next 0 0 0 _ k1
      · trivial
    · trivial
  · trivial


/- numbers, texts -/
theorem ieq_eq (a b : Int) : ieq a b = (a == b) := by
  rw [Bool.eq_iff_iff]
  cases a <;> cases b <;> simp [ieq] <;> omega

theorem ilt_eq (a b : Int) : ilt a b = decide (a < b) := by
  cases a <;> cases b <;> simp [ilt, Nat.blt] <;> first | omega | (rw [Bool.eq_iff_iff]; simp; omega)

theorem wrapA_eq (k : IntKind) (n : Int) : wrapA k n = k.wrap n := by
  cases k <;> try rfl
  show wrapFast n (IntKind.i64.wrap n) = _
  cases n with
  | ofNat m =>
    have e : wrapFast (.ofNat m) (IntKind.i64.wrap (.ofNat m)) = Bool.rec (IntKind.i64.wrap (.ofNat m)) (.ofNat m) (Nat.blt m 9223372036854775808) := rfl
    rw [e]
    cases h : Nat.blt m 9223372036854775808 with
    | false => rfl
    | true =>
      have hm : m ≤ 9223372036854775807 := by simpa [Nat.blt] using h
      show Int.ofNat m = _
      simp [IntKind.wrap, IntKind.bits, IntKind.signed]
      omega
  | negSucc m =>
    have e : wrapFast (.negSucc m) (IntKind.i64.wrap (.negSucc m)) = Bool.rec (IntKind.i64.wrap (.negSucc m)) (.negSucc m) (Nat.blt m 9223372036854775808) := rfl
    rw [e]
    cases h : Nat.blt m 9223372036854775808 with
    | false => rfl
    | true =>
      have hm : m ≤ 9223372036854775807 := by simpa [Nat.blt] using h
      show Int.negSucc m = _
      have e2 : Int.negSucc m = -((m : Int) + 1) := rfl
      rw [e2]
      have e3 : (-((m : Int) + 1)) % 18446744073709551616 = 18446744073709551616 - ((m : Int) + 1) := by omega
      have e4 : IntKind.i64.wrap (-((m : Int) + 1)) = if (true && decide ((-((m : Int) + 1)) % 18446744073709551616 ≥ 9223372036854775808)) = true then (-((m : Int) + 1)) % 18446744073709551616 - 18446744073709551616 else (-((m : Int) + 1)) % 18446744073709551616 := rfl
      rw [e4, e3, if_pos (by simp; omega)]
      omega

theorem kEq_true {j k : IntKind} (h : kEq j k = true) : j = k := by
  cases j <;> cases k <;> first | rfl | exact absurd h (by decide)

theorem strEq_eq (x y : List UInt8) : strEq x.length (bitsOf x) y.length (bitsOf y) = (x == y) := by
  rw [Bool.eq_iff_iff]
  constructor
  · intro h
    obtain ⟨h1, h2⟩ := band_true h
    simpa using bitsOf_inj x y (Nat.eq_of_beq_eq_true h1) (Nat.eq_of_beq_eq_true h2)
  · intro h
    have : x = y := by simpa using h
    subst this
    simp [strEq, band]

theorem strLess_eq : ∀ (f : Nat) (x y : List UInt8), y.length < f → strLess f x.length (bitsOf x) y.length (bitsOf y) = Op.bytesLess x y
  | 0, _, _, h => by omega
  | f + 1, x, [], _ => by cases x <;> rfl
  | f + 1, [], b :: y, _ => rfl
  | f + 1, a :: x, b :: y, h => by
    have ih := strLess_eq f x y (by simpa using h)
    have ha := a.toNat_lt
    have hb := b.toNat_lt
    have e1 : Nat.mod (bitsOf (a :: x)) 256 = a.toNat := by show (a.toNat + 256 * bitsOf x) % 256 = _; omega
    have e2 : Nat.mod (bitsOf (b :: y)) 256 = b.toNat := by show (b.toNat + 256 * bitsOf y) % 256 = _; omega
    have e3 : Nat.div (bitsOf (a :: x)) 256 = bitsOf x := by show (a.toNat + 256 * bitsOf x) / 256 = _; omega
    have e4 : Nat.div (bitsOf (b :: y)) 256 = bitsOf y := by show (b.toNat + 256 * bitsOf y) / 256 = _; omega
    show (Bool.rec (Nat.blt (Nat.mod (bitsOf (a :: x)) 256) (Nat.mod (bitsOf (b :: y)) 256)) (strLess f x.length (Nat.div (bitsOf (a :: x)) 256) y.length (Nat.div (bitsOf (b :: y)) 256)) (Nat.beq (Nat.mod (bitsOf (a :: x)) 256) (Nat.mod (bitsOf (b :: y)) 256)) : Bool) = _
    rw [e1, e2, e3, e4, ih]
    cases he : Nat.beq a.toNat b.toNat with
    | true =>
      have : a = b := UInt8.toNat_inj.1 (Nat.eq_of_beq_eq_true he)
      subst this
      simp [Op.bytesLess]
    | false =>
      have hne : a ≠ b := fun e => by rw [e] at he; simp at he
      show Nat.blt a.toNat b.toNat = _
      clear e1 e2 e3 e4 ih
      have hab : (a == b) = false := by simpa using hne
      simp [Op.bytesLess, hab, Nat.blt, UInt8.lt_iff_toNat_lt]
      rw [Bool.eq_iff_iff]; simp; omega

theorem toList_eq (s : ByteArray) : s.toList = s.data.toList := ByteArray.toList_eq s


theorem VR.int_inv {k : IntKind} {n : Int} {x : Value} (h : VR π σ (.int k n) x) : x = .int k n := by cases h; rfl
theorem VR.bool_inv {b : Bool} {x : Value} (h : VR π σ (.bool b) x) : x = .bool b := by cases h; rfl
theorem VR.str_inv {n bits : Nat} {x : Value} (h : VR π σ (.str n bits) x) : ∃ s : ByteArray, x = .string s ∧ n = s.data.toList.length ∧ bits = bitsOf s.data.toList := by cases h with | str s => exact ⟨s, rfl, rfl, rfl⟩

theorem VR.str_mk {n bits : Nat} (s : ByteArray) (h1 : n = s.data.toList.length) (h2 : bits = bitsOf s.data.toList) : VR π σ (.str n bits) (.string s) := by subst h1; subst h2; exact .str s

/-- the model's operator, its guard ahead -/
def binM (op : BinOp) (t : Nat) (x y : Operand) (u v : Value) : Sem Value := do eqGuard op t x y u v; binOp op t u v

theorem bytesLess_or : ∀ (x y : List UInt8), (Op.bytesLess x y || x == y) = !Op.bytesLess y x
  | [], [] => rfl
  | [], _ :: _ => rfl
  | _ :: _, [] => rfl
  | a :: x, b :: y => by
    have ih := bytesLess_or x y
    simp only [Op.bytesLess]
    rcases Nat.lt_trichotomy a.toNat b.toNat with h | h | h
    · have h1 : a < b := UInt8.lt_iff_toNat_lt.2 h
      have h2 : ¬ b < a := fun e => by have := UInt8.lt_iff_toNat_lt.1 e; omega
      have h3 : (b == a) = false := by simp; intro e; subst e; omega
      simp [h1, h2, h3]
    · have h0 : a = b := UInt8.toNat_inj.1 h
      subst h0
      have h1 : ¬ a < a := fun e => by have := UInt8.lt_iff_toNat_lt.1 e; omega
      have e : (a :: x == a :: y) = (x == y) := by simp
      have e1 : (decide (a < a)) = false := by simp
      rw [e, e1, beq_self_eq_true]
      simpa using ih
    · have h1 : ¬ a < b := fun e => by have := UInt8.lt_iff_toNat_lt.1 e; omega
      have h2 : b < a := UInt8.lt_iff_toNat_lt.2 h
      have h3 : (a == b) = false := by simp; intro e; subst e; omega
      simp [h1, h2, h3]

theorem bin_int {op : BinOp} {t : Nat} {x y : Operand} {k : IntKind} {m n : Int} {g : IntKind → Int → Int → Option AV} {r : AV} (hg : intOp op = some g) (hr : g k m n = some r) :
    ∃ z, (binM op t x y (.int k m) (.int k n)).run P w = .ok z w ∧ VR π σ r z := by
  cases op with
  | add => obtain rfl := Option.some.inj hg; obtain rfl := Option.some.inj hr; exact ⟨.int k (k.wrap (m + n)), by simp [binM, eqGuard, binOp, Op.intArith], by rw [wrapA_eq]; exact .int _ _⟩
  | sub => obtain rfl := Option.some.inj hg; obtain rfl := Option.some.inj hr; exact ⟨.int k (k.wrap (m - n)), by simp [binM, eqGuard, binOp, Op.intArith], by rw [wrapA_eq]; exact .int _ _⟩
  | mul => obtain rfl := Option.some.inj hg; obtain rfl := Option.some.inj hr; exact ⟨.int k (k.wrap (m * n)), by simp [binM, eqGuard, binOp, Op.intArith], by rw [wrapA_eq]; exact .int _ _⟩
  | quo =>
    obtain rfl := Option.some.inj hg
    obtain ⟨h1, h2⟩ := oif_some hr
    obtain rfl := Option.some.inj h2
    rw [ieq_eq, bnot_eq] at h1
    have h0 : n ≠ 0 := by simpa using h1
    exact ⟨.int k (k.wrap (m.tdiv n)), by simp [binM, eqGuard, binOp, Op.intDiv, h0], by rw [wrapA_eq]; exact .int _ _⟩
  | rem =>
    obtain rfl := Option.some.inj hg
    obtain ⟨h1, h2⟩ := oif_some hr
    obtain rfl := Option.some.inj h2
    rw [ieq_eq, bnot_eq] at h1
    have h0 : n ≠ 0 := by simpa using h1
    exact ⟨.int k (m.tmod n), by simp [binM, eqGuard, binOp, Op.intDiv, h0], .int _ _⟩
  | eql => obtain rfl := Option.some.inj hg; obtain rfl := Option.some.inj hr; exact ⟨.bool (m == n), by simp [binM, eqGuard, binOp, Op.intCmp], by rw [ieq_eq]; exact .bool _⟩
  | neq => obtain rfl := Option.some.inj hg; obtain rfl := Option.some.inj hr; exact ⟨.bool (m != n), by simp [binM, eqGuard, binOp, Op.intCmp], by rw [ieq_eq, bnot_eq]; exact .bool _⟩
  | lss => obtain rfl := Option.some.inj hg; obtain rfl := Option.some.inj hr; exact ⟨.bool (decide (m < n)), by simp [binM, eqGuard, binOp, Op.intCmp], by rw [ilt_eq]; exact .bool _⟩
  | gtr => obtain rfl := Option.some.inj hg; obtain rfl := Option.some.inj hr; exact ⟨.bool (decide (m > n)), by simp [binM, eqGuard, binOp, Op.intCmp], by rw [ilt_eq]; exact .bool _⟩
  | leq => obtain rfl := Option.some.inj hg; obtain rfl := Option.some.inj hr; exact ⟨.bool (decide (m ≤ n)), by simp [binM, eqGuard, binOp, Op.intCmp], by rw [ilt_eq, bnot_eq, ← decide_not]; simp only [Int.not_lt]; exact .bool _⟩
  | geq => obtain rfl := Option.some.inj hg; obtain rfl := Option.some.inj hr; exact ⟨.bool (decide (m ≥ n)), by simp [binM, eqGuard, binOp, Op.intCmp], by rw [ilt_eq, bnot_eq, ← decide_not]; simp only [Int.not_lt]; exact .bool _⟩
  | and => exact absurd hg (by simp [intOp])
  | or => exact absurd hg (by simp [intOp])
  | xor => exact absurd hg (by simp [intOp])
  | shl => exact absurd hg (by simp [intOp])
  | shr => exact absurd hg (by simp [intOp])
  | andNot => exact absurd hg (by simp [intOp])

theorem bin_str {op : BinOp} {t : Nat} {x y : Operand} {s u : ByteArray} {g : Nat → Nat → Nat → Nat → Option AV} {r : AV} (hg : strOp op = some g)
    (hr : g s.data.toList.length (bitsOf s.data.toList) u.data.toList.length (bitsOf u.data.toList) = some r) :
    ∃ z, (binM op t x y (.string s) (.string u)).run P w = .ok z w ∧ VR π σ r z := by
  have h1 := strLess_eq (Nat.succ u.data.toList.length) s.data.toList u.data.toList (Nat.lt_succ_self _)
  have h2 := strLess_eq (Nat.succ s.data.toList.length) u.data.toList s.data.toList (Nat.lt_succ_self _)
  cases op with
  | add =>
    obtain rfl := Option.some.inj hg
    obtain ⟨h3, h4⟩ := oif_some hr
    obtain rfl := Option.some.inj h4
    have h5 : s.data.toList.length + u.data.toList.length ≤ 1000000000 := Nat.le_of_ble_eq_true h3
    have e1 : s.size = s.data.toList.length := by rw [Array.length_toList]; rfl
    have e2 : u.size = u.data.toList.length := by rw [Array.length_toList]; rfl
    have e3 : ¬ ((s.size + u.size : Nat) : Int) > IntKind.i64.max := by
      have : IntKind.i64.max = 9223372036854775807 := rfl
      rw [this]; omega
    refine ⟨.string (s ++ u), ?_, VR.str_mk _ ?_ ?_⟩
    · simp only [binM, eqGuard, binOp, Op.stringOp, Sem.run_bind]
      rw [if_neg e3]
      simp
    · rw [ByteArray.data_append]; simp
    · rw [ByteArray.data_append, Array.toList_append, bitsOf_append]; rfl
  | eql => obtain rfl := Option.some.inj hg; obtain rfl := Option.some.inj hr; exact ⟨.bool (s.data.toList == u.data.toList), by simp [binM, eqGuard, binOp, Op.stringOp, toList_eq], by rw [strEq_eq]; exact .bool _⟩
  | neq => obtain rfl := Option.some.inj hg; obtain rfl := Option.some.inj hr; exact ⟨.bool (!(s.data.toList == u.data.toList)), by simp [binM, eqGuard, binOp, Op.stringOp, toList_eq], by rw [strEq_eq, bnot_eq]; exact .bool _⟩
  | lss => obtain rfl := Option.some.inj hg; obtain rfl := Option.some.inj hr; exact ⟨.bool (Op.bytesLess s.data.toList u.data.toList), by simp [binM, eqGuard, binOp, Op.stringOp, toList_eq], by rw [h1]; exact .bool _⟩
  | geq => obtain rfl := Option.some.inj hg; obtain rfl := Option.some.inj hr; exact ⟨.bool (!Op.bytesLess s.data.toList u.data.toList), by simp [binM, eqGuard, binOp, Op.stringOp, toList_eq], by rw [h1, bnot_eq]; exact .bool _⟩
  | gtr =>
    obtain rfl := Option.some.inj hg; obtain rfl := Option.some.inj hr
    refine ⟨.bool (!(Op.bytesLess s.data.toList u.data.toList || s.data.toList == u.data.toList)), by rw [← toList_eq, ← toList_eq]; rfl, ?_⟩
    rw [h2, bytesLess_or, Bool.not_not]; exact .bool _
  | leq =>
    obtain rfl := Option.some.inj hg; obtain rfl := Option.some.inj hr
    refine ⟨.bool (Op.bytesLess s.data.toList u.data.toList || s.data.toList == u.data.toList), by rw [← toList_eq, ← toList_eq]; rfl, ?_⟩
    rw [h2, bytesLess_or, bnot_eq]; exact .bool _
  | sub => exact absurd hg (by simp [strOp])
  | mul => exact absurd hg (by simp [strOp])
  | quo => exact absurd hg (by simp [strOp])
  | rem => exact absurd hg (by simp [strOp])
  | and => exact absurd hg (by simp [strOp])
  | or => exact absurd hg (by simp [strOp])
  | xor => exact absurd hg (by simp [strOp])
  | shl => exact absurd hg (by simp [strOp])
  | shr => exact absurd hg (by simp [strOp])
  | andNot => exact absurd hg (by simp [strOp])

theorem cls_some {t c : Nat} (h : (Option.rec 6 clsD (P.underlying t) : Nat) = c) (hc : c < 6) : ∃ d, P.underlying t = some d ∧ clsD d = c := by
  cases hu : P.underlying t with
  | none => rw [hu] at h; have : (6 : Nat) = c := h; omega
  | some d => rw [hu] at h; exact ⟨d, rfl, h⟩

theorem eq_run {op : BinOp} {t : Nat} {x y : Operand} {u v : Value} {g : Bool → Option AV} {r : AV} {b : Bool} (hg : eqOp op = some g) (hr : g b = some r)
    (h0 : ∀ w, (eqGuard op t x y u v).run P w = .ok () w) (h1 : ∀ d w, (Op.equalIn (d + 1) t u v).run P w = .ok b w)
    (h2 : binOp .eql t u v = do pure (.bool (← Op.equal t u v))) (h3 : binOp .neq t u v = do pure (.bool (!(← Op.equal t u v)))) :
    ∃ z, (binM op t x y u v).run P w = .ok z w ∧ VR π σ r z := by
  have h1' : ∀ w, (Op.equal t u v).run P w = .ok b w := h1 9999
  cases op with
  | eql =>
    obtain rfl := Option.some.inj hg; obtain rfl := Option.some.inj hr
    exact ⟨.bool b, by simp [binM, h0, h2, h1'], .bool _⟩
  | neq =>
    obtain rfl := Option.some.inj hg; obtain rfl := Option.some.inj hr
    exact ⟨.bool (!b), by simp [binM, h0, h3, h1'], by rw [bnot_eq]; exact .bool _⟩
  | _ => exact absurd hg (by simp [eqOp])

theorem bin_bool {op : BinOp} {t : Nat} {x y : Operand} {b c : Bool} {g : Bool → Option AV} {r : AV} (ht : P.underlying t = some .bool) (hg : eqOp op = some g) (hr : g (beqB b c) = some r) :
    ∃ z, (binM op t x y (.bool b) (.bool c)).run P w = .ok z w ∧ VR π σ r z :=
  eq_run hg hr (fun w => by cases op <;> rfl) (fun d w => by simp [Op.equalIn, run_underlying ht, beqB_eq]) rfl rfl

theorem isC_some {x : Operand} (h : isC x = true) : ∃ v, x = .const v := by cases x <;> first | exact ⟨_, rfl⟩ | (simp [isC] at h; done)

theorem guard_ok {op : BinOp} {t : Nat} {x y : Operand} {u v : Value} (h1 : u ≠ .nilIface ∨ v ≠ .nilIface) (h2 : ∀ a, u ≠ .agg a) (w : World) : (eqGuard op t x y u v).run P w = .ok () w := by
  unfold eqGuard
  cases op <;> first
    | rfl
    | (cases u <;> first
        | rfl
        | (cases v <;> first | rfl | (simp at h1; done))
        | (exact absurd rfl (h2 _)))

theorem guard_const {op : BinOp} {t : Nat} {x y : Operand} (h : bor (isC x) (isC y) = true) (w : World) : (eqGuard op t x y .nilIface .nilIface).run P w = .ok () w := by
  unfold eqGuard
  rcases bor_true h with h | h
  · obtain ⟨v, rfl⟩ := isC_some h
    cases op <;> rfl
  · obtain ⟨v, rfl⟩ := isC_some h
    cases op <;> cases x <;> rfl

/-- of one class, one of them nil at least -/
inductive NilPair : Nat → Bool → Bool → Value → Value → Prop
  | s0 (q : Addr) (n m : Nat) : NilPair 0 true false (.slice none 0 0) (.slice (some q) n m)
  | s2 : NilPair 0 true true (.slice none 0 0) (.slice none 0 0)
  | s1 (q : Addr) (n m : Nat) : NilPair 0 false true (.slice (some q) n m) (.slice none 0 0)
  | m0 (q : Nat) : NilPair 1 true false (.map none) (.map (some q))
  | m2 : NilPair 1 true true (.map none) (.map none)
  | m1 (q : Nat) : NilPair 1 false true (.map (some q)) (.map none)
  | f0 : NilPair 2 true true .nilFunc .nilFunc
  | f1 (fn : Fn) (l m : Array Value) : NilPair 2 true false .nilFunc (.func fn l m)
  | f2 (fn : Fn) (l m : Array Value) : NilPair 2 false true (.func fn l m) .nilFunc
  | p0 (q : Addr) : NilPair 3 true false (.pointer none) (.pointer (some q))
  | p2 : NilPair 3 true true (.pointer none) (.pointer none)
  | p1 (q : Addr) : NilPair 3 false true (.pointer (some q)) (.pointer none)
  | i0 : NilPair 4 true true .nilIface .nilIface
  | i1 (q : TypeId) (z : Value) : NilPair 4 true false .nilIface (.iface q z)
  | i2 (q : TypeId) (z : Value) : NilPair 4 false true (.iface q z) .nilIface

theorem nilPair_of {u v : AV} {u' v' : Value} (hu : VR π σ u u') (hv : VR π σ v v') {c : Nat} {a b : Bool} (h1 : nilA u = some (c, a)) (h2 : nilA v = some (c, b)) (h : bor a b = true) : NilPair c a b u' v' := by
  cases hu <;> first
    | (simp [nilA] at h1; done)
    | (simp only [nilA] at h1
       obtain ⟨rfl, rfl⟩ := Prod.mk.inj (Option.some.inj h1)
       cases hv <;> first
        | (simp [nilA] at h2; done)
        | (simp only [nilA] at h2
           obtain ⟨_, rfl⟩ := Prod.mk.inj (Option.some.inj h2)
           first | (simp [bor] at h; done) | constructor))

theorem bin_nil {op : BinOp} {t : Nat} {x y : Operand} {u v : AV} {u' v' : Value} (hu : VR π σ u u') (hv : VR π σ v v') {r : AV} (h : binNil (binF P op t x y) u v = some r) :
    ∃ z, (binM op t x y u' v').run P w = .ok z w ∧ VR π σ r z := by
  obtain ⟨p, h1, h2⟩ := obind_some (show obind (nilA u) (fun a => obind (nilA v) fun b => obind (eqOp op) fun g => obind (nilEq (Option.rec 6 clsD (P.underlying t)) (bor (isC x) (isC y)) a b) g) = some r from h)
  obtain ⟨q, h3, h4⟩ := obind_some h2
  obtain ⟨g, hg, h6⟩ := obind_some h4
  obtain ⟨e, h7, hr⟩ := obind_some h6
  obtain ⟨h8, h9⟩ := oif_some h7
  obtain ⟨h10, h11⟩ := oif_some h9
  obtain ⟨h12, h13⟩ := oif_some h11
  obtain rfl := Option.some.inj h13
  obtain ⟨h14, h15⟩ := band_true h8
  have hp := Nat.eq_of_beq_eq_true h14
  have hq := Nat.eq_of_beq_eq_true h15
  obtain ⟨p1, p2⟩ := p
  obtain ⟨q1, q2⟩ := q
  simp only at hp hq h10 h12 hr
  have hpq : q1 = p1 := hq.trans hp.symm
  subst hpq
  have hn := nilPair_of hu hv h1 h3 h10
  have hc : q1 < 6 := by cases hn <;> decide
  obtain ⟨d, hd, hcd⟩ := cls_some hp.symm hc
  rw [hd] at h12
  cases hn
  case i0 =>
    cases d <;> first | (simp [clsD] at hcd; done) | skip
    have h16 : bor (isC x) (isC y) = true := by
      rcases bor_true h12 with h | h
      · exact h
      · simp [bnot, band, clsD] at h
    exact eq_run hg hr (fun w => guard_const h16 w) (fun d w => by simp [Op.equalIn, run_underlying hd, band]) rfl rfl
  all_goals
    cases d <;> first | (simp [clsD] at hcd; done) | skip
    exact eq_run hg hr (fun w => guard_ok (by simp) (fun _ => by simp) w) (fun d w => by simp [Op.equalIn, run_underlying hd, band]) rfl rfl

theorem natI_some {z : Int} {n : Nat} (h : natI z = some n) : z = (n : Int) := by
  unfold natI at h
  split at h
  · obtain rfl := Option.some.inj h; rfl
  · simp at h

theorem bit_val {f : Nat → Nat → Nat} {k : IntKind} {a b : Int} {r : AV} (h : bitF f k a b = some r) : ∃ m n : Nat, a = m ∧ b = n ∧ r = .int k (k.wrap (f (m % 2 ^ k.bits) (n % 2 ^ k.bits) : Nat)) := by
  unfold bitF at h
  split at h
  · rename_i m n
    exact ⟨m, n, rfl, rfl, (Option.some.inj h).symm⟩
  · simp at h

theorem shl_val {k : IntKind} {q : Nat} {a : Int} {r : AV} (h : shl k q a = some r) : ∃ n : Nat, a = n ∧ r = .int k (wrapA k (Int.ofNat (n * 2 ^ (min q k.bits)))) := by
  unfold shl at h
  split at h
  · rename_i n
    exact ⟨n, rfl, (Option.some.inj h).symm⟩
  · simp at h
theorem shr_val {k : IntKind} {q : Nat} {a : Int} {r : AV} (h : shr k q a = some r) : ∃ n : Nat, a = n ∧ r = .int k (Int.ofNat (n / 2 ^ (min q k.bits))) := by
  unfold shr at h
  split at h
  · rename_i n
    exact ⟨n, rfl, (Option.some.inj h).symm⟩
  · simp at h

theorem bin_bits {op : BinOp} {t : Nat} {x y : Operand} {k k' : IntKind} {m n : Int} {r : AV} (h : binBits (binF P op t x y) k m k' n = some r) :
    ∃ z, (binM op t x y (.int k m) (.int k' n)).run P w = .ok z w ∧ VR π σ r z := by
  have h : (Option.rec (oif (kEq k k') (obind (bitOp op) fun g => g k m n)) (fun g => obind (natI n) fun q => g k q m) (shiftOp op) : Option AV) = some r := h
  cases hs : shiftOp op with
  | some g =>
    rw [hs] at h
    obtain ⟨q, h1, h2⟩ := obind_some h
    obtain rfl := natI_some h1
    cases op <;> first | (simp [shiftOp] at hs; done) | skip
    · obtain rfl := Option.some.inj (show some shl = some g from hs)
      obtain ⟨a, rfl, rfl⟩ := shl_val h2
      refine ⟨.int k (k.wrap ((a : Int) * 2 ^ (min q k.bits))), by simp [binM, eqGuard, binOp, Op.shift, show ¬ (q : Int) < 0 by omega], ?_⟩
      rw [wrapA_eq]
      have : (Int.ofNat (a * 2 ^ (min q k.bits)) : Int) = (a : Int) * 2 ^ (min q k.bits) := by
        show ((a * 2 ^ (min q k.bits) : Nat) : Int) = _
        push_cast; rfl
      rw [this]
      exact .int _ _
    · obtain rfl := Option.some.inj (show some shr = some g from hs)
      obtain ⟨a, rfl, rfl⟩ := shr_val h2
      refine ⟨.int k ((a : Int).fdiv (2 ^ (min q k.bits))), by simp [binM, eqGuard, binOp, Op.shift, show ¬ (q : Int) < 0 by omega], ?_⟩
      have : (Int.ofNat (a / 2 ^ (min q k.bits)) : Int) = (a : Int).fdiv (2 ^ (min q k.bits)) := by
        have h3 : ((2 : Int) ^ (min q k.bits)) = ((2 ^ (min q k.bits) : Nat) : Int) := by push_cast; rfl
        rw [h3]
        exact Int.ofNat_fdiv a _
      rw [this]
      exact .int _ _
  | none =>
    rw [hs] at h
    obtain ⟨h1, h2⟩ := oif_some h
    obtain rfl := kEq_true h1
    obtain ⟨g, h3, h4⟩ := obind_some h2
    cases op <;> first | (simp [bitOp] at h3; done) | skip
    all_goals
      obtain rfl := Option.some.inj h3
      obtain ⟨a, b, rfl, rfl, rfl⟩ := bit_val h4
    · refine ⟨.int k (k.wrap ((BitVec.ofInt k.bits a) &&& (BitVec.ofInt k.bits b)).toNat), by simp [binM, eqGuard, binOp, Op.intBits], ?_⟩
      rw [BitVec.toNat_and]
      simp only [BitVec.ofInt_natCast, BitVec.toNat_ofNat]
      exact .int _ _
    · refine ⟨.int k (k.wrap ((BitVec.ofInt k.bits a) ||| (BitVec.ofInt k.bits b)).toNat), by simp [binM, eqGuard, binOp, Op.intBits], ?_⟩
      rw [BitVec.toNat_or]
      simp only [BitVec.ofInt_natCast, BitVec.toNat_ofNat]
      exact .int _ _
    · refine ⟨.int k (k.wrap ((BitVec.ofInt k.bits a) ^^^ (BitVec.ofInt k.bits b)).toNat), by simp [binM, eqGuard, binOp, Op.intBits], ?_⟩
      rw [BitVec.toNat_xor]
      simp only [BitVec.ofInt_natCast, BitVec.toNat_ofNat]
      exact .int _ _

theorem among_mem : ∀ {l : List (Nat × Nat)} {n b : Nat}, amongA l n b = true → (n, b) ∈ l
  | [], _, _, h => absurd (show false = true from h) (by simp)
  | q :: l, n, b, h => by
    rcases bor_true (show bor (strEq q.1 q.2 n b) (amongA l n b) = true from h) with h | h
    · obtain ⟨h1, h2⟩ := band_true h
      have h1 : q.1 = n := Nat.eq_of_beq_eq_true h1
      have h2 : q.2 = b := Nat.eq_of_beq_eq_true h2
      rw [← h1, ← h2]; exact List.mem_cons_self
    · exact List.mem_cons_of_mem _ (among_mem h)

/-- a text that is none of some is not one of these -/
theorem other_ne {l : List (Nat × Nat)} {n b : Nat} {x y : Value} (h : amongA l n b = true) (hx : VR π σ (.notin l) x) (hy : VR π σ (.str n b) y) : ∃ s u : ByteArray, x = .string s ∧ y = .string u ∧ (s == u) = false ∧ (u == s) = false := by
  obtain ⟨u, rfl, rfl, rfl⟩ := VR.str_inv hy
  cases hx with
  | notin _ s hs =>
    have hne : s ≠ u := fun e => by
      subst e
      exact hs _ (among_mem h) ⟨rfl, rfl⟩
    have hd : s.data ≠ u.data := fun e => hne (ByteArray.ext e)
    refine ⟨s, u, rfl, rfl, ?_, ?_⟩
    · show (s.data == u.data) = false
      simpa using hd
    · show (u.data == s.data) = false
      simpa using hd.symm

theorem bin_other {op : BinOp} {t : Nat} {x y : Operand} {s u : ByteArray} (hne : (s == u) = false) {g : Bool → Option AV} (hg : eqOp op = some g) {r : AV} (hr : g false = some r) :
    ∃ z, (binM op t x y (.string s) (.string u)).run P w = .ok z w ∧ VR π σ r z := by
  have hl : ¬ s.toList = u.toList := fun e => by
    rw [toList_eq, toList_eq] at e
    have : s.data = u.data := Array.toList_inj.mp e
    have h2 : (s.data == u.data) = false := hne
    rw [this] at h2
    simp at h2
  unfold eqOp at hg
  split at hg
  · obtain rfl := Option.some.inj hg
    obtain rfl := Option.some.inj hr
    exact ⟨.bool false, by simp [binM, eqGuard, binOp, Op.stringOp, hl], .bool _⟩
  · obtain rfl := Option.some.inj hg
    obtain rfl := Option.some.inj hr
    exact ⟨.bool true, by simp [binM, eqGuard, binOp, Op.stringOp, hl], .bool _⟩
  · simp at hg

theorem rel_some {u v : AV} {u' v' : Value} {b : Bool} (hu : VR π σ u u') (hv : VR π σ v v') (h : relA u v = some b) : ∃ m n : Int, u' = .int .i64 m ∧ v' = .int .i64 n ∧ ((b = true ∧ m < n) ∨ (b = false ∧ n < m)) := by
  unfold relA at h
  split at h <;> first | (simp at h; done) | skip
  all_goals
    obtain ⟨h1, h2⟩ := oif_some h
    obtain rfl := Option.some.inj h2
    rw [ilt_eq] at h1
    have h1 := of_decide_eq_true h1
  · cases hu with
    | le _ n hn => obtain rfl := VR.int_inv hv; exact ⟨_, _, rfl, rfl, .inl ⟨rfl, by omega⟩⟩
  · cases hv with
    | le _ n hn => obtain rfl := VR.int_inv hu; exact ⟨_, _, rfl, rfl, .inr ⟨rfl, by omega⟩⟩
  · cases hu with
    | ge _ n hn => obtain rfl := VR.int_inv hv; exact ⟨_, _, rfl, rfl, .inr ⟨rfl, by omega⟩⟩
  · cases hv with
    | ge _ n hn => obtain rfl := VR.int_inv hu; exact ⟨_, _, rfl, rfl, .inl ⟨rfl, by omega⟩⟩
  · cases hu with
    | le _ n hn => cases hv with
      | ge _ m hm => exact ⟨_, _, rfl, rfl, .inl ⟨rfl, by omega⟩⟩
  · cases hu with
    | ge _ n hn => cases hv with
      | le _ m hm => exact ⟨_, _, rfl, rfl, .inr ⟨rfl, by omega⟩⟩

theorem bin_rel {op : BinOp} {t : Nat} {x y : Operand} {u v : AV} {u' v' : Value} (hu : VR π σ u u') (hv : VR π σ v v') {r : AV} (h : binRel (binF P op t x y) u v = some r) :
    ∃ z, (binM op t x y u' v').run P w = .ok z w ∧ VR π σ r z := by
  obtain ⟨b, h1, h2⟩ := obind_some h
  obtain ⟨g, h3, h4⟩ := obind_some h2
  obtain rfl := Option.some.inj h4
  obtain ⟨m, n, rfl, rfl, h5⟩ := rel_some hu hv h1
  have h3 : relOp op = some g := h3
  rcases h5 with ⟨rfl, h5⟩ | ⟨rfl, h5⟩
  · cases op <;> first | (simp [relOp] at h3; done) | skip
    all_goals obtain rfl := Option.some.inj h3
    · exact ⟨.bool false, by simp [binM, eqGuard, binOp, Op.intCmp]; omega, .bool _⟩
    · exact ⟨.bool true, by simp [binM, eqGuard, binOp, Op.intCmp]; omega, .bool _⟩
    · exact ⟨.bool true, by simp [binM, eqGuard, binOp, Op.intCmp]; omega, .bool _⟩
    · exact ⟨.bool true, by simp [binM, eqGuard, binOp, Op.intCmp]; omega, .bool _⟩
    · exact ⟨.bool false, by simp [binM, eqGuard, binOp, Op.intCmp]; omega, .bool _⟩
    · exact ⟨.bool false, by simp [binM, eqGuard, binOp, Op.intCmp]; omega, .bool _⟩
  · cases op <;> first | (simp [relOp] at h3; done) | skip
    all_goals obtain rfl := Option.some.inj h3
    · exact ⟨.bool false, by simp [binM, eqGuard, binOp, Op.intCmp]; omega, .bool _⟩
    · exact ⟨.bool true, by simp [binM, eqGuard, binOp, Op.intCmp]; omega, .bool _⟩
    · exact ⟨.bool false, by simp [binM, eqGuard, binOp, Op.intCmp]; omega, .bool _⟩
    · exact ⟨.bool false, by simp [binM, eqGuard, binOp, Op.intCmp]; omega, .bool _⟩
    · exact ⟨.bool true, by simp [binM, eqGuard, binOp, Op.intCmp]; omega, .bool _⟩
    · exact ⟨.bool true, by simp [binM, eqGuard, binOp, Op.intCmp]; omega, .bool _⟩

theorem binA_ok {op : BinOp} {t : Nat} {x y : Operand} {u v : AV} {u' v' : Value} (hu : VR π σ u u') (hv : VR π σ v v') {r : AV} (h : binA (binF P op t x y) u v = some r) :
    ∃ z, (binM op t x y u' v').run P w = .ok z w ∧ VR π σ r z := by
  unfold binA at h
  split at h
  · rename_i k n
    have hu0 := hu
    obtain rfl := VR.int_inv hu
    unfold binInt at h
    split at h
    · rename_i k' n'
      obtain rfl := VR.int_inv hv
      have h : (Option.rec (binBits (binF P op t x y) k n k' n') (fun g => oif (kEq k k') (g k n n')) (intOp op) : Option AV) = some r := h
      cases hi : intOp op with
      | some g =>
        rw [hi] at h
        obtain ⟨h1, h2⟩ := oif_some h
        obtain rfl := kEq_true h1
        exact bin_int hi h2
      | none =>
        rw [hi] at h
        exact bin_bits h
    · exact bin_rel hu0 hv h
  · rename_i l n
    obtain ⟨s, rfl, rfl, rfl⟩ := VR.str_inv hu
    unfold binStr at h
    split at h
    · obtain ⟨s', rfl, rfl, rfl⟩ := VR.str_inv hv
      obtain ⟨g, h3, h4⟩ := obind_some h
      exact bin_str h3 h4
    · obtain ⟨h1, h2⟩ := oif_some h
      obtain ⟨g, h3, h4⟩ := obind_some h2
      obtain ⟨q, q', rfl, e2, e3, e4⟩ := other_ne h1 hv (VR.str s)
      obtain rfl := Value.string.inj e2
      exact bin_other e4 h3 h4
    · simp at h
  · rename_i b
    obtain rfl := VR.bool_inv hu
    unfold binBool at h
    split at h
    · rename_i c
      obtain rfl := VR.bool_inv hv
      obtain ⟨h1, h2⟩ := oif_some h
      obtain ⟨g, h3, h4⟩ := obind_some h2
      obtain ⟨d, hd, hcd⟩ := cls_some (P := P) (t := t) (Nat.eq_of_beq_eq_true h1) (by decide)
      cases d <;> first | (simp [clsD] at hcd; done) | skip
      exact bin_bool hd h3 h4
    · simp at h
  · rename_i b off
    unfold binPtr at h
    split at h
    · rename_i c o
      obtain ⟨h1, h2⟩ := oif_some h
      obtain ⟨h3, h4⟩ := band_true h1
      obtain ⟨h5, h6⟩ := band_true h4
      obtain ⟨g, hg, hr⟩ := obind_some h2
      obtain rfl := Nat.eq_of_beq_eq_true h5
      obtain rfl := Nat.eq_of_beq_eq_true h6
      obtain ⟨L, hL, rfl⟩ := VR.ptr_inv hu
      obtain ⟨L', hL', rfl⟩ := VR.ptr_inv hv
      obtain rfl : L = L' := by rw [hL] at hL'; exact Option.some.inj hL'
      have h3 : (Option.rec false (ptrD P) (P.underlying t) : Bool) = true := h3
      cases hd : P.underlying t with
      | none => rw [hd] at h3; simp at h3
      | some d =>
        rw [hd] at h3
        have h3 : ptrD P d = true := h3
        cases d <;> first | (exact absurd (show false = true from h3) (by simp)) | skip
        rename_i e _
        have h3 : (Option.rec false (fun _ => true) (P.info? e) : Bool) = true := h3
        cases hi : P.info? e with
        | none => rw [hi] at h3; simp at h3
        | some j => exact eq_run hg hr (fun w => guard_ok (by simp) (fun _ => by simp) w) (fun d w => by simp [Op.equalIn, run_underlying hd, sizeOf, typeInfo, hi, run_sameAddr_same]) rfl rfl
    · exact bin_nil hu hv h
  · exact bin_rel hu hv h
  · exact bin_rel hu hv h
  · unfold binOther at h
    split at h
    · obtain ⟨h1, h2⟩ := oif_some h
      obtain ⟨g, h3, h4⟩ := obind_some h2
      obtain ⟨q, q', rfl, rfl, e3, e4⟩ := other_ne h1 hu hv
      exact bin_other e3 h3 h4
    · simp at h
  · exact bin_nil hu hv h

theorem aBin_ok (hS : SR π B σ H w) {env : Env} (he : EnvR π σ env a) {op : BinOp} {t u : Nat} {x y : Operand} (ho : o.op = .binOp op t x y u) :
    OpOk π B σ P o a H w (ob ((gop x).run env) fun a => ob ((gop y).run env) fun b => vo H (binA (binF P op t x y) a b)) :=
  OpOk.ob fun v hv => OpOk.ob fun v' hv' => OpOk.vo fun r hr => by
    obtain ⟨z, h1, h2⟩ := binA_ok (w := w) (gop_VR he hv) (gop_VR he hv') hr
    refine OpOk.pure hS ?_ h2
    have : execOp a.eval o = (do let v ← binM op t x y (a.eval x) (a.eval y); pure (.value v)) := by simp only [execOp, ho]; rfl
    rw [this]
    simp [h1]

theorem aUn_ok (hS : SR π B σ H w) {env : Env} (he : EnvR π σ env a) {op : UnOp} {t : Nat} {x : Operand} (ho : o.op = .unOp op t x) : OpOk π B σ P o a H w ((aUn op x).run env H) := by
  unfold aUn
  split
  · refine OpOk.ob fun v hv => OpOk.vo fun r hr => ?_
    unfold unNot at hr
    split at hr
    · obtain rfl := Option.some.inj hr
      have hx := VR.bool_inv (gop_VR he hv)
      exact OpOk.pure hS (x := .bool (!_)) (by simp [execOp, ho, hx, Op.unary]; rfl) (by rw [bnot_eq]; exact .bool _)
    · simp at hr
  · refine OpOk.ob fun v hv => OpOk.vo fun r hr => ?_
    unfold unNeg at hr
    split at hr
    · rename_i k n
      obtain rfl := Option.some.inj hr
      have hx := VR.int_inv (gop_VR he hv)
      exact OpOk.pure hS (x := .int k (k.wrap (0 - n))) (by simp [execOp, ho, hx, Op.unary, Op.intArith]) (by rw [wrapA_eq]; exact .int _ _)
    · simp at hr
  · trivial


theorem natOf_some {v : AV} {n : Nat} (h : natOf v = some n) : ∃ k, v = .int k (.ofNat n) := by
  unfold natOf at h
  split at h
  · rename_i k m
    unfold natI at h
    split at h
    · obtain rfl := Option.some.inj h; exact ⟨k, rfl⟩
    · simp at h
  · simp at h

theorem aggOf_some {v : AV} {l : List AV} (h : aggOf v = some l) : v = .agg l := by
  unfold aggOf at h
  split at h
  · obtain rfl := Option.some.inj h; rfl
  · simp at h

theorem VR.agg_inv {l : List AV} {x : Value} (h : VR π σ (.agg l) x) : ∃ xs, x = .agg xs ∧ VRL π σ l xs.toList := by
  cases h with
  | agg _ xs h => exact ⟨xs, rfl, h⟩

theorem blt_lt {a b : Nat} (h : Nat.blt a b = true) : a < b := by simp [Nat.blt] at h; omega

theorem part_run {t : Nat} {l : List AV} {xs : Array Value} (hx : VRL π σ l xs.toList) {off : Nat} {v : AV} (h : (partT P t).run l off = some v) : ∃ x, (∀ w, (part t xs off).run P w = .ok x w) ∧ VR π σ v x := by
  unfold partT at h
  split at h
  · rename_i n h1 h2
    obtain ⟨m, h3, h4⟩ := obind_some (show obind (sub l off n) (fun l => some (.agg l)) = some v from h)
    obtain rfl := Option.some.inj h4
    obtain ⟨k1, k2⟩ := sub_some h3
    refine ⟨.agg (xs.extract off (off + n)), fun w => by simp [part, run_isAgg h1, run_sizeOf h2], .agg _ _ ?_⟩
    have hlen := hx.length
    rw [Array.length_toList] at hlen
    refine VRL.of _ _ ?_ fun i u hu => ?_
    · rw [Array.length_toList, Array.size_extract, k1]
      rcases Nat.eq_zero_or_pos n with h0 | h0
      · omega
      · obtain ⟨_, e, _⟩ := k2 (n - 1) (by omega)
        have : off + (n - 1) < l.length := by
          rcases Nat.lt_or_ge (off + (n - 1)) l.length with h' | h'
          · exact h'
          · rw [List.getElem?_eq_none h'] at e; simp at e
        omega
    · have hi : i < n := by
        rcases Nat.lt_or_ge i n with h' | h'
        · exact h'
        · rw [List.getElem?_eq_none (by omega)] at hu; simp at hu
      obtain ⟨u', e1, e2⟩ := k2 i hi
      obtain rfl : u = u' := by rw [e2] at hu; exact (Option.some.inj hu).symm
      obtain ⟨x, f1, f2⟩ := hx.get _ _ e1
      refine ⟨x, ?_, f2⟩
      rw [Array.getElem?_toList] at f1 ⊢
      rw [Array.getElem?_extract, if_pos ?_]
      · exact f1
      · have : off + i < xs.size := by
          rcases Nat.lt_or_ge (off + i) xs.size with h' | h'
          · exact h'
          · rw [Array.getElem?_eq_none h'] at f1; simp at f1
        omega
  · rename_i h1
    have h3 : l[off]? = some v := by rw [← nth_eq]; exact h
    obtain ⟨x, f1, f2⟩ := hx.get _ _ h3
    exact ⟨x, fun w => by simp [part, run_isAgg h1, (by simpa using f1 : xs[off]? = some x)], f2⟩
  · exact absurd (show none = some v from h) (by simp)

theorem fieldOf_some {s f : Nat} {fd : Field} (h : fieldOf P s f = some fd) : ∃ fields, P.underlying s = some (.struct fields) ∧ fields[f]? = some fd := by
  unfold fieldOf at h
  split at h
  · rename_i fields hu
    exact ⟨fields, hu, by rw [nth_eq] at h; simpa using h⟩
  · simp at h

theorem aFieldAddr_ok (hS : SR π B σ H w) {env : Env} (he : EnvR π σ env a) {s f : Nat} {x : Operand} (ho : o.op = .fieldAddr s x f) : OpOk π B σ P o a H w ((aFieldAddr P s x f).run env H) := by
  unfold aFieldAddr
  split
  · rename_i fd hf
    split
    · rename_i n hs
      refine OpOk.ob fun v hv => OpOk.ob fun p hp => ?_
      obtain ⟨L, hL, hx⟩ := VR.ptr_inv (ptrOf_some hp ▸ gop_VR he hv)
      obtain ⟨fields, h1, h2⟩ := fieldOf_some hf
      refine OpOk.pure hS (x := .pointer (some ⟨L.blk, L.sh + (p.2 + fd.offset), none⟩)) ?_ (.ptr _ _ _ hL)
      simp [execOp, ho, hx, Instr.fieldAt, run_underlying h1, h2, Instr.sureAddr, fieldPlace, run_sizeOf hs, add_addr, Nat.add_assoc]
    · trivial
  · trivial

theorem aField_ok (hS : SR π B σ H w) {env : Env} (he : EnvR π σ env a) {s f : Nat} {x : Operand} (ho : o.op = .field s x f) : OpOk π B σ P o a H w ((aField P s x f).run env H) := by
  unfold aField
  split
  · rename_i fd hf
    refine OpOk.ob fun v hv => OpOk.ob fun cs hcs => OpOk.vo fun u hu => ?_
    obtain ⟨xs, hx, hl⟩ := VR.agg_inv (aggOf_some hcs ▸ gop_VR he hv)
    obtain ⟨fields, h1, h2⟩ := fieldOf_some hf
    obtain ⟨y, h3, h4⟩ := part_run hl hu
    exact OpOk.pure hS (by simp [execOp, ho, hx, Instr.field, run_underlying h1, h2, asAgg, h3]) h4
  · trivial

theorem aIndexAddr_ok (hS : SR π B σ H w) {env : Env} (he : EnvR π σ env a) {t : Nat} {x ix : Operand} (ho : o.op = .indexAddr t x ix) : OpOk π B σ P o a H w ((aIndexAddr P t x ix).run env H) := by
  unfold aIndexAddr
  split
  · rename_i elem hu
    split
    · rename_i size hs
      refine OpOk.ob fun v hv => OpOk.ob fun j hj => OpOk.ob fun i hi => OpOk.vo fun r hr => ?_
      obtain ⟨k, rfl⟩ := natOf_some hi
      have hjx := VR.int_inv (gop_VR he hj)
      unfold idxAddr at hr
      split at hr
      · rename_i b off n cap g
        obtain ⟨h1, h2⟩ := oif_some hr
        obtain rfl := Option.some.inj h2
        have hlt := blt_lt h1
        have : ∃ L cap', σ b = some L ∧ a.eval x = .slice (some ⟨L.blk, L.sh + off, none⟩) n cap' := by
          have := gop_VR he hv
          generalize a.eval x = y at this
          cases this with
          | slice _ _ _ _ L e => exact ⟨L, _, e, rfl⟩
          | sliceg _ _ _ _ _ L _ e => exact ⟨L, _, e, rfl⟩
        obtain ⟨L, cap', hL, hx⟩ := this
        refine OpOk.pure hS (x := .pointer (some ⟨L.blk, L.sh + (off + i * size), none⟩)) ?_ (.ptr _ _ _ hL)
        simp [execOp, ho, hx, hjx, Instr.indexAt, run_underlying hu, asIntOf, run_sizeOf hs, hlt, add_addr, Nat.add_assoc]
      · simp at hr
    · trivial
  · rename_i n elem hu
    split
    · rename_i size hs
      refine OpOk.ob fun v hv => OpOk.ob fun j hj => OpOk.ob fun i hi => OpOk.ob fun p hp => OpOk.oi fun h1 => ?_
      obtain ⟨k, rfl⟩ := natOf_some hi
      have hjx := VR.int_inv (gop_VR he hj)
      obtain ⟨L, hL, hx⟩ := VR.ptr_inv (ptrOf_some hp ▸ gop_VR he hv)
      have hlt := blt_lt h1
      refine OpOk.pure hS (x := .pointer (some ⟨L.blk, L.sh + (p.2 + i * size), none⟩)) ?_ (.ptr _ _ _ hL)
      simp [execOp, ho, hx, hjx, Instr.indexAt, run_underlying hu, asIntOf, Instr.sureAddr, run_sizeOf hs, hlt, add_addr, Nat.add_assoc]
    · trivial
  · trivial

theorem aIndex_ok (hS : SR π B σ H w) {env : Env} (he : EnvR π σ env a) {t : Nat} {x ix : Operand} (ho : o.op = .index t x ix) : OpOk π B σ P o a H w ((aIndex P t x ix).run env H) := by
  unfold aIndex
  split
  · rename_i hu
    refine OpOk.ob fun v hv => OpOk.ob fun j hj => OpOk.ob fun i hi => OpOk.vo fun r hr => ?_
    obtain ⟨k, rfl⟩ := natOf_some hi
    have hjx := VR.int_inv (gop_VR he hj)
    unfold idxStr at hr
    split at hr
    · rename_i n bits
      obtain ⟨h1, h2⟩ := oif_some hr
      obtain rfl := Option.some.inj h2
      have hlt := blt_lt h1
      obtain ⟨s, hx, rfl, rfl⟩ := VR.str_inv (gop_VR he hv)
      have hsz : i < s.size := by rw [Array.length_toList] at hlt; exact hlt
      refine OpOk.pure hS (x := .int .u8 (s[i].toNat : Int)) ?_ ?_
      · simp [execOp, ho, hx, hjx, Instr.index, run_underlying hu, asIntOf, hsz]
      · have e : Nat.mod (Nat.div (bitsOf s.data.toList) (Nat.pow 256 i)) 256 = s[i].toNat := bitsOf_get s.data.toList i hlt
        rw [e]; exact .int _ _
    · simp at hr
  · rename_i n elem hu
    split
    · rename_i size hs
      refine OpOk.ob fun v hv => OpOk.ob fun j hj => OpOk.ob fun i hi => OpOk.ob fun cs hcs => OpOk.oi fun h1 => OpOk.vo fun r hr => ?_
      obtain ⟨k, rfl⟩ := natOf_some hi
      have hjx := VR.int_inv (gop_VR he hj)
      obtain ⟨xs, hx, hl⟩ := VR.agg_inv (aggOf_some hcs ▸ gop_VR he hv)
      have hlt := blt_lt h1
      obtain ⟨y, h3, h4⟩ := part_run hl hr
      have h3' : ∀ w, (part elem xs (i * size)).run P w = .ok y w := h3
      exact OpOk.pure hS (by simp [execOp, ho, hx, hjx, Instr.index, run_underlying hu, asIntOf, run_sizeOf hs, hlt, h3']) h4
    · trivial
  · trivial

theorem tupleAt_ok (hS : SR π B σ H w) {env : Env} (he : EnvR π σ env a) {x : Operand} {i : Nat} (ho : o.op = .extract x i) : OpOk π B σ P o a H w (ob ((gop x).run env) fun v => vo H (tupleAt i v)) :=
  OpOk.ob fun v hv => OpOk.vo fun r hr => by
    unfold tupleAt at hr
    split at hr
    · rename_i l
      rw [nth_eq] at hr
      have := gop_VR he hv
      generalize hx : a.eval x = y at this
      cases this with
      | tuple _ xs h =>
        obtain ⟨z, h1, h2⟩ := h.get _ _ hr
        exact OpOk.pure hS (by simp [execOp, ho, hx, Instr.extract, (by simpa using h1 : xs[i]? = some z)]) h2
    · simp at hr

theorem aPick_ok (hS : SR π B σ H w) {env : Env} (he : EnvR π σ env a) {c x y : Operand} (ho : o.op = .pick c x y) :
    OpOk π B σ P o a H w (ob ((gop c).run env) fun v => vo H (pickA ((gop x).run env) ((gop y).run env) v)) :=
  OpOk.ob fun v hv => OpOk.vo fun r hr => by
    unfold pickA at hr
    split at hr
    · rename_i b
      have hc := VR.bool_inv (gop_VR he hv)
      cases b with
      | true => exact OpOk.pure hS (x := a.eval x) (by simp [execOp, ho, hc, asBool]) (gop_VR he hr)
      | false => exact OpOk.pure hS (x := a.eval y) (by simp [execOp, ho, hc, asBool]) (gop_VR he hr)
    · simp at hr

theorem aNil_ok (hS : SR π B σ H w) {env : Env} (he : EnvR π σ env a) {x : Operand} (ho : o.op = .nilCheck x) : OpOk π B σ P o a H w (ob ((gop x).run env) fun v => vo H (okNil v)) :=
  OpOk.ob fun v hv => OpOk.vo fun r hr => by
    unfold okNil at hr
    have h := gop_VR he hv
    split at hr
    · obtain rfl := Option.some.inj hr
      obtain ⟨L, hL, hx⟩ := VR.ptr_inv h
      exact OpOk.pure hS (x := a.eval x) (by simp [execOp, ho, hx]) h
    · obtain rfl := Option.some.inj hr
      generalize hx : a.eval x = y at h
      cases h with
      | func fn l m xs ys h1 h2 => exact OpOk.pure hS (by simp [execOp, ho, hx]) (.func _ _ _ _ _ h1 h2)
    · simp at hr

theorem aMove_ok (hS : SR π B σ H w) {env : Env} (he : EnvR π σ env a) {x : Operand} (ho : o.op = .move x ∨ o.op = .assign x) : OpOk π B σ P o a H w (vo H ((gop x).run env)) :=
  OpOk.vo fun r hr => OpOk.pure hS (x := a.eval x) (by rcases ho with ho | ho <;> simp [execOp, ho]) (gop_VR he hr)

theorem sizeT_info {t n : Nat} (h : sizeT P t = some n) : ∃ j, P.info? t = some j ∧ j.size = n := by
  obtain ⟨j, h1, h2⟩ := obind_some (show obind (P.info? t) (fun i => some i.size) = some n from h)
  exact ⟨j, h1, Option.some.inj h2⟩

theorem aConvert_ok (hS : SR π B σ H w) {env : Env} (he : EnvR π σ env a) {s d : Nat} {x : Operand} (ho : o.op = .convert s d x) : OpOk π B σ P o a H w ((aConvert P s d x).run env H) := by
  unfold aConvert
  split
  · rename_i k' k h1 h2
    refine OpOk.ob fun v hv => OpOk.vo fun r hr => ?_
    unfold convI at hr
    split at hr
    · obtain rfl := Option.some.inj hr
      have hx := VR.int_inv (gop_VR he hv)
      exact OpOk.pure hS (x := .int k (k.wrap _)) (by simp [execOp, ho, hx, convert, run_underlying h1, run_underlying h2, Conv.intToInt]; rfl) (by rw [wrapA_eq]; exact .int _ _)
    · simp at hr
  · rename_i h1 h2
    refine OpOk.ob fun v hv => OpOk.vo fun r hr => ?_
    unfold convS at hr
    split at hr
    · obtain rfl := Option.some.inj hr
      obtain ⟨s, hx, e1, e2⟩ := VR.str_inv (gop_VR he hv)
      exact OpOk.pure hS (x := .string s) (by simp [execOp, ho, hx, convert, run_underlying h1, run_underlying h2]) (VR.str_mk s e1 e2)
    · simp at hr
  · rename_i t h1 h2
    split
    · rename_i q hq
      refine OpOk.ob fun v hv => OpOk.vo fun r hr => ?_
      obtain ⟨j, hj, hjs⟩ := sizeT_info hq
      unfold toUns at hr
      split at hr
      · rename_i b off
        obtain ⟨u, g1, g2⟩ := obind_some hr
        obtain rfl := Option.some.inj g2
        obtain ⟨L, hL, hx⟩ := VR.ptr_inv (gop_VR he hv)
        obtain ⟨ob, f1, f2⟩ := obind_some (show obind (H.get b) (rd1Row off) = some u from g1)
        cases ob with
        | row l e lo hi =>
          obtain ⟨L', C, e', fr, k1, _, k3, k4, k5, _⟩ := Rel.row hS f1
          obtain rfl : L' = L := by rw [hL] at k1; exact (Option.some.inj k1).symm
          have hlt : off < l.length := by
            have f2 : nth l off = some u := f2
            rw [nth_eq] at f2
            rcases Nat.lt_or_ge off l.length with h | h
            · exact h
            · rw [List.getElem?_eq_none h] at f2; simp at f2
          have k5' := k5.1
          have hsh : w.shape? L'.blk = some (e', C.size) := by simp [World.shape?, k3]
          have hrun := Lib.run_to_unsafe (P := P) w ⟨L'.blk, L'.sh + off, none⟩ h1 h2 hj (by omega) hsh (show L'.sh + off < C.size by omega)
          exact OpOk.pure hS (x := .pointer (some ⟨L'.blk, L'.sh + off, none⟩)) (by simp [execOp, ho, hx, hrun]) (.ptr _ _ _ hL)
        | _ => exact absurd (show none = some u from f2) (by simp)
      · obtain rfl := Option.some.inj hr
        have hx := gop_VR he hv
        generalize hy : a.eval x = y at hx
        cases hx
        exact OpOk.pure hS (x := .pointer none) (by simp [execOp, ho, hy, convert, run_underlying h1, run_underlying h2, Conv.unsafePointer]) .nilptr
      · simp at hr
    · trivial
  · rename_i u h1 h2
    split
    · rename_i q hq
      refine OpOk.ob fun v hv => OpOk.vo fun r hr => ?_
      obtain ⟨j, hj, hjs⟩ := sizeT_info hq
      unfold ofUns at hr
      split at hr
      · rename_i b off
        obtain ⟨ob, f1, f2⟩ := obind_some hr
        obtain ⟨L, hL, hx⟩ := VR.ptr_inv (gop_VR he hv)
        cases ob with
        | row l e lo hi =>
          obtain ⟨g1, g2⟩ := oif_some (show oif (band (Nat.beq (Nat.mod e 4) 3) (liesAt P P.depth (Nat.div e 4) (len l / P.cellsOf (Nat.div e 4)) off u 1)) (some (.ptr b off)) = some r from f2)
          obtain rfl := Option.some.inj g2
          obtain ⟨g3, g4⟩ := band_true g1
          have g3 : e % 4 = 3 := Nat.eq_of_beq_eq_true g3
          obtain ⟨L', C, e', fr, k1, _, k3, k4, k5, _, k7⟩ := Rel.row hS f1
          obtain rfl : L' = L := by rw [hL] at k1; exact (Option.some.inj k1).symm
          have he' : e' = e / 4 := k7.1 (by omega)
          have hs0 := k7.2.1 (by omega)
          have hcz := k7.2.2 g3
          have hsh : w.shape? L'.blk = some (e', C.size) := by simp [World.shape?, k3]
          have hrun := Lib.run_from_unsafe (P := P) w ⟨L'.blk, L'.sh + off, none⟩ h1 h2 hj hsh (by
            show liesAt P P.depth e' (C.size / P.cellsOf e') (L'.sh + off) u 1 = true
            rw [he', k4, hcz, hs0, Nat.zero_add, ← len_eq]; exact g4)
          exact OpOk.pure hS (x := .pointer (some ⟨L'.blk, L'.sh + off, none⟩)) (by simp [execOp, ho, hx, hrun]) (.ptr _ _ _ hL)
        | _ => exact absurd (show none = some r from f2) (by simp)
      · obtain rfl := Option.some.inj hr
        have hx := gop_VR he hv
        generalize hy : a.eval x = y at hx
        cases hx
        exact OpOk.pure hS (x := .pointer none) (by simp [execOp, ho, hy, convert, run_underlying h1, run_underlying h2, Conv.unsafePointer]) .nilptr
      · simp at hr
    · trivial
  · rename_i e h1 h2
    split
    · rename_i hb
      refine OpOk.ob fun v hv0 => OpOk.vo fun r hr => ?_
      have hu8 : P.underlying e = some (.int .u8) := by
        unfold byteE at hb
        split at hb
        · assumption
        · simp at hb
      have hv := gop_VR he hv0
      generalize hy : a.eval x = y at hv
      have go : ∀ z, (convert s d y).run P w = .ok z w → VR π σ r z → OpOk π B σ P o a H w (.val r H) := fun z h3 h4 => OpOk.pure hS (x := z) (by simp [execOp, ho, hy, h3]) h4
      unfold bytesS at hr
      split at hr
      · rename_i b off n cap g
        obtain ⟨l, g1, g2⟩ := obind_some hr
        obtain ⟨bits, g3, g4⟩ := obind_some g2
        obtain rfl := Option.some.inj g4
        obtain ⟨bs, rfl, rfl⟩ := strOf_some g3
        have : ∃ L cap', σ b = some L ∧ y = .slice (some ⟨L.blk, L.sh + off, none⟩) n cap' := by
          cases hv with
          | slice _ _ _ _ L e => exact ⟨L, _, e, rfl⟩
          | sliceg _ _ _ _ _ L _ e => exact ⟨L, _, e, rfl⟩
        obtain ⟨L, cap', hL, rfl⟩ := this
        obtain ⟨xs, k1, k2, k3⟩ := rd_run hS g1 hL
        have hlen : bs.length = n := by have := k2.length; simpa [k1] using this.symm
        have hc := run_convert_bytes_arg (P := P) w s e h1 hu8 L.blk (L.sh + off) n cap' (bs.map fun c => (c.toNat : Int)) (by simp [hlen]) (fun i hi => by
          obtain ⟨z, z1, z2⟩ := k2.get i _ (show (bs.map fun b => AV.int .u8 (.ofNat b.toNat))[i]? = some (.int .u8 (.ofNat (bs[i]'(by omega)).toNat)) by simp [show i < bs.length by omega])
          have := k3 i z z1
          rw [add_addr] at this
          rw [this, VR.int_inv z2]
          simp [List.getD, show i < bs.length by omega]) d h2
        have hs : strOfNums (bs.map fun c => (c.toNat : Int)) = ⟨bs.toArray⟩ := by
          unfold strOfNums
          rw [List.map_map]
          have h0 : bs.map ((fun n : Int => UInt8.ofNat n.toNat) ∘ fun c : UInt8 => (c.toNat : Int)) = bs.map id := List.map_congr_left fun c _ => by simp
          rw [h0, List.map_id]
        rw [hs] at hc
        refine go _ hc ?_
        rw [← hlen]
        exact VR.str (σ := σ) ⟨bs.toArray⟩
      · obtain rfl := Option.some.inj hr
        cases hv
        exact go _ (run_convert_bytes_nil w s e h1 hu8 0 0 d h2) (VR.str (σ := σ) ByteArray.empty)
      · obtain rfl := Option.some.inj hr
        cases hv with
        | eslice q cap =>
          have hc := run_convert_bytes_string (P := P) w s d e (some q) 0 cap h1 hu8 h2
          have hr : (Conv.bytesToString (.slice (some q) 0 cap)).run P w = .ok (.string ByteArray.empty) w := by
            have := run_bytesToString (P := P) w q 0 cap [] (by simp [loadCells, loadCellsFrom])
            simpa using this
          exact go _ (hc.trans hr) (VR.str (σ := σ) ByteArray.empty)
      · simp at hr
    · trivial
  · trivial

theorem aRange_ok (hS : SR π B σ H w) {env : Env} (he : EnvR π σ env a) {t : Nat} {x : Operand} (ho : o.op = .range t x) : OpOk π B σ P o a H w ((aRange P t x).run env H) := by
  unfold aRange
  split
  · rename_i hu
    refine OpOk.ob fun v hv => ?_
    unfold rangeA
    split
    · obtain ⟨s, hx, rfl, rfl⟩ := VR.str_inv (gop_VR he hv)
      obtain ⟨σ', h1, h2, h3, h4⟩ := SR.new (w' := w.alloc (.stringIter s 0)) hS (.siter s.data.toList.length (bitsOf s.data.toList) 0) ⟨w.heap.size, 0, 0⟩ rfl (fun k hk => heap_alloc_old w _ k hk) (by simp) ⟨rfl, rfl, rfl⟩
        (fun σ' _ => ⟨rfl, s, heap_alloc_new w _, rfl, rfl⟩)
      exact ⟨σ', .pointer (some ⟨w.heap.size, 0, none⟩), _, .inl (by simp [execOp, ho, hx, Instr.range, run_underlying hu]), .ptr _ _ _ h1, h2, h3, h4⟩
    · trivial
  · trivial

theorem byteAt_eq (l : List UInt8) : ∀ (i : Nat) (b : UInt8), l[i]? = some b → byteAt (bitsOf l) i = b.toNat := by
  induction l with
  | nil => intro i b h; simp at h
  | cons c l ih =>
    intro i b h
    have hc : c.toNat < 256 := c.toNat_lt
    have hbits : bitsOf (c :: l) = c.toNat + 256 * bitsOf l := rfl
    cases i with
    | zero =>
      obtain rfl : c = b := by simpa using h
      show (bitsOf (c :: l) / 256 ^ 0) % 256 = _
      rw [hbits, Nat.pow_zero, Nat.div_one]; omega
    | succ i =>
      have := ih i b (by simpa using h)
      show (bitsOf (c :: l) / 256 ^ (i + 1)) % 256 = _
      rw [hbits, Nat.pow_succ, Nat.mul_comm (256 ^ i) 256, ← Nat.div_div_eq_div_mul]
      have h2 : (c.toNat + 256 * bitsOf l) / 256 = bitsOf l := by omega
      rw [h2]
      exact this

theorem get!_eq (s : ByteArray) (i : Nat) (b : UInt8) (h : s.data.toList[i]? = some b) : s.get! i = b := by
  show s.data[i]! = b
  rw [Array.getElem?_toList] at h
  simp [Array.getElem!_eq_getD, Array.getD_eq_getD_getElem?, h]

theorem decode_ok (s : ByteArray) {i : Nat} (hi : i < s.data.toList.length) {q : Nat × Nat} (h : decodeA s.data.toList.length (bitsOf s.data.toList) i = some q) : Utf8.decode s i = q := by
  have hsz : s.size = s.data.toList.length := by rw [Array.length_toList]; rfl
  have hb := List.getElem?_eq_getElem hi
  have h0 := byteAt_eq _ _ _ hb
  have h1 := get!_eq _ _ _ hb
  have h : (Bool.rec (oif (bor (Nat.ble s.data.toList.length (Nat.succ i)) (bnot (Nat.beq (Nat.div (byteAt (bitsOf s.data.toList) (Nat.succ i)) 64) 2))) (some (65533, 1))) (some (byteAt (bitsOf s.data.toList) i, 1)) (Nat.blt (byteAt (bitsOf s.data.toList) i) 128) : Option (Nat × Nat)) = some q := h
  rw [h0] at h
  unfold Utf8.decode
  simp only [Nat.add_zero, h1]
  cases hlt : Nat.blt (s.data.toList[i]).toNat 128 with
  | true =>
    rw [hlt] at h
    obtain rfl := Option.some.inj h
    have := blt_lt hlt
    rw [if_pos this]
  | false =>
    rw [hlt] at h
    obtain ⟨h2, h3⟩ := oif_some h
    obtain rfl := Option.some.inj h3
    have hge : ¬ (s.data.toList[i]).toNat < 128 := fun e => by
      have : Nat.blt (s.data.toList[i]).toNat 128 = true := Nat.ble_eq_true_of_le e
      rw [hlt] at this; simp at this
    rw [if_neg hge]
    have hcont : (decide (i + 1 < s.size) && (s.get! (i + 1)).toNat / 64 == 2) = false := by
      rcases bor_true h2 with h2 | h2
      · have := Nat.le_of_ble_eq_true h2
        have : ¬ i + 1 < s.size := by omega
        simp [this]
      · by_cases hlt2 : i + 1 < s.data.toList.length
        · have hb2 := List.getElem?_eq_getElem hlt2
          have e1 := byteAt_eq _ _ _ hb2
          have e2 := get!_eq _ _ _ hb2
          rw [show Nat.succ i = i + 1 from rfl, e1, bnot_eq] at h2
          rw [e2]
          have h2 : Nat.beq ((s.data.toList[i + 1]).toNat / 64) 2 = false := by
            have h2 : (!Nat.beq ((s.data.toList[i + 1]).toNat / 64) 2) = true := h2
            simpa using h2
          have : ((s.data.toList[i + 1]).toNat / 64 == 2) = false := by
            have := Nat.ne_of_beq_eq_false h2
            simpa using this
          rw [this]; simp
        · have : ¬ i + 1 < s.size := by omega
          simp [this]
    simp [hcont]; rfl

theorem aNext_ok (hS : SR π B σ H w) {env : Env} (he : EnvR π σ env a) {x : Operand} {s : Bool} (ho : o.op = .next x s) : OpOk π B σ P o a H w ((aNext x s).run env H) := by
  unfold aNext
  split
  · refine OpOk.ob fun v hv0 => OpOk.ob fun p hp => OpOk.oi fun h0 => OpOk.ob fun ob hob => ?_
    have h0 : p.2 = 0 := Nat.eq_of_beq_eq_true h0
    have hv := gop_VR he hv0
    rw [ptrOf_some hp] at hv
    obtain ⟨L, hL, hx⟩ := VR.ptr_inv hv
    unfold nextObj
    split
    · rename_i n bits pos
      have hk : H.know p.1 = some (.siter n bits pos) := know_of_get hob (by simp)
      obtain ⟨L', g1, g2, g3⟩ := hS.rel.obj _ _ hk
      obtain rfl : L' = L := by rw [hL] at g1; exact (Option.some.inj g1).symm
      obtain ⟨g4, s, g5, rfl, rfl⟩ := g3
      rw [h0, g4] at hx
      have hsz : s.size = s.data.toList.length := by rw [Array.length_toList]; rfl
      have hget : (getObj L'.blk).run P w = .ok (.stringIter s pos) w := by simp [getObj, Sem.run, g5]
      cases hlt : Nat.blt pos s.data.toList.length with
      | false =>
        have : ¬ pos < s.size := fun e => by
          have : Nat.blt pos s.data.toList.length = true := by simp [Nat.blt]; omega
          rw [hlt] at this; simp at this
        exact OpOk.pure hS (x := .tuple #[.bool false]) (by simp [execOp, ho, hx, Instr.next, hget, this]) (.tuple _ _ (.cons _ _ _ _ (.bool _) .nil))
      | true =>
        have hlt := blt_lt hlt
        refine OpOk.ob fun q hq => ?_
        have hd := decode_ok s hlt hq
        have hset : (setObj L'.blk (.stringIter s (pos + q.2))).run P w = .ok () { w with heap := w.heap.setIfInBounds L'.blk (.stringIter s (pos + q.2)) } := by
          simp [setObj, Sem.run, g5]
        have hb : L'.blk < w.heap.size := by
          rcases Nat.lt_or_ge L'.blk w.heap.size with h' | h'
          · exact h'
          · rw [Array.getElem?_eq_none h'] at g5; simp at g5
        have hlt' : pos < s.size := by omega
        have := SR.put (w' := { w with heap := w.heap.setIfInBounds L'.blk (.stringIter s (pos + q.2)) }) hS p.1 (.siter s.data.toList.length (bitsOf s.data.toList) (pos + q.2)) _ L' hk hL
          (fun k hk => by simp [Ne.symm hk]) (by simp) ⟨rfl, rfl, rfl⟩ ⟨g4, s, by simp [hb], rfl, rfl⟩
        refine ⟨σ, .tuple #[.bool true, .int .i64 pos, .int .i32 (q.1 : Nat)], _, .inl ?_, .tuple _ _ (.cons _ _ _ _ (.bool _) (.cons _ _ _ _ (.int _ _) (.cons _ _ _ _ (.int _ _) .nil))), this.1, this.2.1, this.2.2⟩
        simp [execOp, ho, hx, Instr.next, hget, hlt', hd, hset, goInt]
    · trivial
  · trivial

theorem panic_ok (hS : SR π B σ H w) {env : Env} (he : EnvR π σ env a) {x : Operand} (ho : o.op = .panic x) : OpOk π B σ P o a H w (ob ((gop x).run env) fun v => panA H v) :=
  OpOk.ob fun v hv0 => by
    have hv := gop_VR he hv0
    unfold panA
    split
    · rename_i t _
      generalize hy : a.eval x = y at hv
      cases hv with
      | iface _ _ z h =>
        have hp : (Instr.panic (.iface t z)).run P w = .halt (.panic (.iface t z)) w := rfl
        exact ⟨σ, .iface t z, w, by simp [execOp, ho, hy, hp], .iface _ _ _ h, hS, Ext.refl _ _ _, Nx.refl _ _⟩
    · trivial

theorem aAssert_ok (hS : SR π B σ H w) {env : Env} (he : EnvR π σ env a) {x : Operand} {s t : Nat} {ok : Bool} (ho : o.op = .typeAssert x s t ok) : OpOk π B σ P o a H w ((aAssert P x t ok).run env H) := by
  unfold aAssert
  split
  · rename_i z h hz
    refine OpOk.ob fun v hv0 => OpOk.vo fun r hr => ?_
    obtain ⟨d, h1, h2⟩ := obind_some h
    have h3 : ifaceD d = false := Option.some.inj h2
    obtain ⟨zv, z1, z2⟩ := run_zero hz
    have hv := gop_VR he hv0
    generalize hy : a.eval x = y at hv
    have no : ∀ (hn : assNo z ok = some r), (Instr.typeAssert y s t true).run P w = .ok (.tuple #[zv, .bool false]) w → OpOk π B σ P o a H w (.val r H) := by
      intro hn hrun
      unfold assNo at hn
      cases ok with
      | false => exact absurd (show none = some r from hn) (by simp)
      | true =>
        obtain rfl := Option.some.inj (show some (AV.tuple [z, .bool false]) = some r from hn)
        exact OpOk.pure hS (x := .tuple #[zv, .bool false]) (by simp [execOp, ho, hy, hrun]) (.tuple _ _ (.cons _ _ _ _ (z2 _ _) (.cons _ _ _ _ (.bool _) .nil)))
    unfold assA at hr
    split at hr
    · rename_i u v'
      cases hv with
      | iface _ _ q hq =>
        cases hb : Nat.beq u t with
        | true =>
          rw [hb] at hr
          obtain rfl := Option.some.inj (show some (okOf ok v' true) = some r from hr)
          have hut : u = t := Nat.eq_of_beq_eq_true hb
          subst hut
          refine OpOk.pure hS (x := if ok then .tuple #[q, .bool true] else q) ?_ ?_
          · cases d <;> first | (simp [ifaceD] at h3; done) | (cases ok <;> simp [execOp, ho, hy, Instr.typeAssert, run_underlying h1])
          · cases ok with
            | true => exact .tuple _ _ (.cons _ _ _ _ hq (.cons _ _ _ _ (.bool _) .nil))
            | false => exact hq
        | false =>
          rw [hb] at hr
          have hut : u ≠ t := Nat.ne_of_beq_eq_false hb
          refine no hr ?_
          cases d <;> first | (simp [ifaceD] at h3; done) | (simp [Instr.typeAssert, run_underlying h1, hut, z1])
    · cases hv
      refine no hr ?_
      cases d <;> first | (simp [ifaceD] at h3; done) | (simp [Instr.typeAssert, run_underlying h1, z1])
    · simp at hr
  · trivial

theorem aMakeI_ok (hS : SR π B σ H w) {env : Env} (he : EnvR π σ env a) {t : Nat} {x : Operand} (ho : o.op = .makeInterface t x) : OpOk π B σ P o a H w ((aMakeI P t x).run env H) := by
  unfold aMakeI
  split
  · rename_i h
    refine OpOk.ob fun v hv => ?_
    obtain ⟨d, h1, h2⟩ := obind_some h
    have h3 : ifaceD d = false := Option.some.inj h2
    refine OpOk.pure hS (x := .iface t (a.eval x)) ?_ (.iface _ _ _ (gop_VR he hv))
    cases d <;> first | (simp [ifaceD] at h3; done) | simp [execOp, ho, Instr.makeInterface, run_underlying h1]
  · trivial

theorem aMakeF_ok (hS : SR π B σ H w) {env : Env} (he : EnvR π σ env a) {fn : Fn} {f c : Array Operand} (ho : o.op = .makeFunc fn f c) :
    OpOk π B σ P o a H w (ob ((gops f.toList).run env) fun l => ob ((gops c.toList).run env) fun m => .val (.func fn l m) H) :=
  OpOk.ob fun l hl => OpOk.ob fun m hm => OpOk.pure hS (x := .func fn (f.map a.eval) (c.map a.eval)) (by simp [execOp, ho, Instr.makeFunc])
    (.func _ _ _ _ _ (by simpa using gops_VR he hl) (by simpa using gops_VR he hm))


/- slice expressions -/
def BndR (a : Act) (o : Option Operand) (d n : Nat) : Prop := (o = none ∧ n = d) ∨ ∃ x k, o = some x ∧ a.eval x = .int k (.ofNat n)

theorem gnat_ok {env : Env} (he : EnvR π σ env a) {q : Option Operand} {d n : Nat} (h : (gnat q).run env d = some n) : BndR a q d n := by
  cases q with
  | none => exact .inl ⟨rfl, (Option.some.inj (show some d = some n from h)).symm⟩
  | some x =>
    obtain ⟨v, h1, h2⟩ := obind_some (show obind ((gop x).run env) natOf = some n from h)
    obtain ⟨k, rfl⟩ := natOf_some h2
    exact .inr ⟨x, k, rfl, VR.int_inv (gop_VR he h1)⟩

theorem run_bound (k : IntKind) (n y : Nat) (c : BoundsCode) (h : n ≤ y) (w : World) : (Instr.sliceBound (.int k (n : Int)) y c).run P w = .ok n w := by
  have := run_sliceBound (P := P) w k (n : Int) y c (Int.natCast_nonneg n) (by exact_mod_cast h)
  simpa using this

theorem run_bounds2 (s : Bool) {ln cap l h d : Nat} {lo hi : Option Operand} (hl : BndR a lo 0 l) (hh : BndR a hi d h) (hd : d = ln) (h1 : l ≤ h) (h2 : h ≤ cap) (w : World) :
    (Instr.sliceBounds s ln cap (lo.map a.eval) (hi.map a.eval) none).run P w = .ok (l, h, cap) w := by
  subst hd
  have e1 := fun (k : IntKind) => run_bound (P := P) k h cap (if s then .sliceAcap else .sliceAlen) h2 w
  have e2 := fun (k : IntKind) => run_bound (P := P) k l h .sliceB h1 w
  rcases hl with ⟨rfl, rfl⟩ | ⟨x, k, rfl, hx⟩
  · rcases hh with ⟨rfl, rfl⟩ | ⟨y, k', rfl, hy⟩
    · simp [Instr.sliceBounds]
    · simp [Instr.sliceBounds, hy, e1 k']
  · rcases hh with ⟨rfl, rfl⟩ | ⟨y, k', rfl, hy⟩
    · simp [Instr.sliceBounds, hx, e2 k]
    · simp [Instr.sliceBounds, hx, hy, e1 k', e2 k]

theorem run_bounds3 {ln cap l h m : Nat} {lo hi : Option Operand} {mx : Operand} (hl : BndR a lo 0 l) (hh : BndR a hi ln h) (hm : BndR a (some mx) cap m) (hhs : hi.isSome = true) (h1 : l ≤ h) (h2 : h ≤ m) (h3 : m ≤ cap) (w : World) :
    (Instr.sliceBounds true ln cap (lo.map a.eval) (hi.map a.eval) (some (a.eval mx))).run P w = .ok (l, h, m) w := by
  rcases hm with ⟨e, _⟩ | ⟨z, k2, e, hz⟩
  · simp at e
  obtain rfl := Option.some.inj e
  have e0 := run_bound (P := P) k2 m cap .slice3Acap h3 w
  have e1 := fun (k : IntKind) => run_bound (P := P) k h m .slice3B h2 w
  have e2 := fun (k : IntKind) => run_bound (P := P) k l h .slice3C h1 w
  rcases hh with ⟨rfl, rfl⟩ | ⟨y, k', rfl, hy⟩
  · simp at hhs
  rcases hl with ⟨rfl, rfl⟩ | ⟨x, k, rfl, hx⟩
  · simp [Instr.sliceBounds, hz, hy, e0, e1 k']
  · simp [Instr.sliceBounds, hz, hx, hy, e0, e1 k', e2 k]

theorem extract_list (s : ByteArray) (l h : Nat) : (s.extract l h).data.toList = (s.data.toList.drop l).take (h - l) := by
  simp [ByteArray.data_extract]

theorem aSlice_ok (hS : SR π B σ H w) {env : Env} (he : EnvR π σ env a) {t : Nat} {x : Operand} {lo hi mx : Option Operand} (ho : o.op = .slice t x lo hi mx) :
    OpOk π B σ P o a H w ((aSlice P t x lo hi mx).run env H) := by
  unfold aSlice
  split
  · rename_i hu
    split
    · refine OpOk.ob fun v hv => OpOk.vo fun r hr => ?_
      unfold cutS at hr
      split at hr
      · rename_i n bits
        obtain ⟨l, h1, h2⟩ := obind_some hr
        obtain ⟨h, h3, h4⟩ := obind_some h2
        obtain ⟨h5, h6⟩ := oif_some h4
        obtain rfl := Option.some.inj h6
        obtain ⟨h7, h8⟩ := band_true h5
        have h7 := Nat.le_of_ble_eq_true h7
        have h8 := Nat.le_of_ble_eq_true h8
        obtain ⟨s, hx, rfl, rfl⟩ := VR.str_inv (gop_VR he hv)
        have hsz : s.data.toList.length = s.size := by rw [Array.length_toList]; rfl
        have hb := run_bounds2 (P := P) false (gnat_ok he h1) (gnat_ok he h3) hsz h7 (hsz ▸ h8 : h ≤ s.size) w
        refine OpOk.pure hS (x := .string (s.extract l h)) ?_ (VR.str_mk _ ?_ ?_)
        · simp only [execOp, ho, hx, Instr.sliceAt, Instr.slice, Sem.run_bind, run_underlying hu, Result.andThen_ok, Option.map_none]
          simp [hb]
        · rw [extract_list]; simp [List.length_take]; have : s.data.size = s.size := rfl; rw [Array.length_toList] at h8; show h - l = _; omega
        · rw [extract_list, bitsOf_take, bitsOf_drop]; rfl
      · simp at hr
    · trivial
  · rename_i elem hu
    split
    · rename_i size hs
      split
      · refine OpOk.ob fun v hv => OpOk.vo fun r hr => ?_
        unfold cutA at hr
        split at hr
        · rename_i b off n cap g
          obtain ⟨l, h1, h2⟩ := obind_some hr
          obtain ⟨h, h3, h4⟩ := obind_some h2
          obtain ⟨h5, h6⟩ := oif_some (show oif _ _ = some r from h4)
          obtain ⟨h7, h8⟩ := band_true h5
          have h7 := Nat.le_of_ble_eq_true h7
          have h8 := Nat.le_of_ble_eq_true h8
          have hvr := gop_VR he hv
          generalize hx : a.eval x = y at hvr
          cases hvr with
          | slice _ _ _ _ L hL =>
            obtain rfl := Option.some.inj (show some (AV.slice b (offAt l cap off size) (h - l) (cap - l) 0) = some r from h6)
            have hb := run_bounds2 (P := P) true (gnat_ok he h1) (gnat_ok he h3) rfl h7 h8 w
            refine OpOk.pure hS (x := .slice (some ⟨L.blk, L.sh + offAt l cap off size, none⟩) (h - l) (cap - l)) ?_ (.slice _ _ _ _ _ hL)
            simp only [execOp, ho, hx, Instr.sliceAt, Instr.slice, Sem.run_bind, run_underlying hu, Result.andThen_ok, Option.map_none]
            by_cases hc : cap = l
            · subst hc; simp [offAt, hb, run_sizeOf hs]
            · have : Nat.beq l cap = false := by cases e : Nat.beq l cap with | false => rfl | true => exact absurd (Nat.eq_of_beq_eq_true e).symm hc
              simp [offAt, this, hc, add_addr, Nat.add_assoc, hb, run_sizeOf hs]
          | sliceg _ _ _ _ g' L cap' hL hn hcc hcs =>
            obtain ⟨h9, h10⟩ := oif_some (show oif (Nat.beq size (Nat.succ g')) _ = some r from h6)
            have hsz : size = g' + 1 := Nat.eq_of_beq_eq_true h9
            have hb := run_bounds2 (P := P) (cap := cap') true (gnat_ok he h1) (gnat_ok he h3) rfl h7 (Nat.le_trans h8 hcc) w
            have hrun : (execOp a.eval o).run P w = .ok (.value (.slice (if cap' = l then some ⟨L.blk, L.sh + off, none⟩ else some ⟨L.blk, L.sh + off + l * size, none⟩) (h - l) (cap' - l))) w := by
              simp only [execOp, ho, hx, Instr.sliceAt, Instr.slice, Sem.run_bind, run_underlying hu, Result.andThen_ok, Option.map_none]
              by_cases hc : cap' = l
              · subst hc; simp [hb, run_sizeOf hs]
              · simp [hb, run_sizeOf hs, hc, add_addr]
            by_cases hc : l = cap
            · subst hc
              have e1 : Nat.beq l l = true := by simp
              rw [e1] at h10
              by_cases h0 : l = 0
              · subst h0
                obtain rfl := Option.some.inj (show some (AV.slice b off 0 0 (g' + 1)) = some r from h10)
                have hh : h = 0 := by omega
                subst hh
                refine OpOk.pure hS hrun ?_
                by_cases hc : cap' = 0
                · subst hc; rw [if_pos rfl]; exact .sliceg _ _ _ _ _ L _ hL (Nat.le_refl _) (Nat.le_refl _) (by simpa using hcs)
                · rw [if_neg hc]; simp only [Nat.zero_mul, Nat.add_zero, Nat.sub_zero]; exact .sliceg _ _ _ _ _ L _ hL (Nat.zero_le _) (Nat.zero_le _) hcs
              · have e2 : Nat.beq l 0 = false := by cases e : Nat.beq l 0 with | false => rfl | true => exact absurd (Nat.eq_of_beq_eq_true e) h0
                obtain rfl := Option.some.inj (show some AV.eslice = some r from by
                  have : (Bool.rec (some AV.eslice) (some (AV.slice b off 0 0 (g' + 1))) (Nat.beq l 0) : Option AV) = some r := h10
                  rw [e2] at this; exact this)
                have hh : h - l = 0 := by omega
                refine OpOk.pure hS hrun ?_
                rw [hh]
                by_cases hc : cap' = l
                · rw [if_pos hc]; exact .eslice _ _
                · rw [if_neg hc]; exact .eslice _ _
            · have e1 : Nat.beq l cap = false := by cases e : Nat.beq l cap with | false => rfl | true => exact absurd (Nat.eq_of_beq_eq_true e) hc
              rw [e1] at h10
              obtain rfl := Option.some.inj (show some (AV.slice b (off + l * size) (h - l) (cap - l) (g' + 1)) = some r from h10)
              refine OpOk.pure hS hrun ?_
              rw [if_neg (by omega)]
              have := VR.sliceg (π := π) (σ := σ) b (off + l * size) (h - l) (cap - l) g' L (cap' - l) hL (by omega) (by omega) (by
                rw [hsz, Nat.sub_mul]
                have : l * (g' + 1) ≤ cap' * (g' + 1) := Nat.mul_le_mul_right _ (by omega)
                omega)
              rwa [← Nat.add_assoc] at this
        · obtain ⟨l, h1, h2⟩ := obind_some hr
          obtain ⟨h, h3, h4⟩ := obind_some h2
          obtain ⟨m, h5, h6⟩ := obind_some h4
          obtain ⟨h7, h8⟩ := oif_some h6
          obtain rfl := Option.some.inj h8
          obtain rfl := Option.some.inj (show some 0 = some m from h5)
          have h9 : l + (h + 0) = 0 := Nat.eq_of_beq_eq_true h7
          have hl0 : l = 0 := by omega
          have hh0 : h = 0 := by omega
          subst hl0; subst hh0
          have hvr := gop_VR he hv
          generalize hx : a.eval x = y at hvr
          cases hvr
          have hb := run_bounds2 (P := P) (cap := 0) true (gnat_ok he h1) (gnat_ok he h3) rfl (Nat.le_refl _) (Nat.le_refl _) w
          refine OpOk.pure hS (x := .slice none 0 0) ?_ .nilslice
          simp only [execOp, ho, hx, Instr.sliceAt, Instr.slice, Sem.run_bind, run_underlying hu, Result.andThen_ok, Option.map_none]
          simp [hb, run_sizeOf hs]
        · simp at hr
      · rename_i m0
        split
        · rename_i h0
          refine OpOk.ob fun v hv => OpOk.vo fun r hr => ?_
          unfold cutA at hr
          split at hr
          · rename_i b off n cap g
            obtain ⟨l, h1, h2⟩ := obind_some hr
            obtain ⟨h, h3, h4⟩ := obind_some h2
            obtain ⟨m, h5, h6⟩ := obind_some (show obind ((gnat (some m0)).run env cap) (fun m => cut3 size b off cap l h m) = some r from h4)
            obtain ⟨h7, h8⟩ := oif_some h6
            obtain rfl := Option.some.inj h8
            obtain ⟨h9, h10⟩ := band_true h7
            obtain ⟨h11, h12⟩ := band_true h10
            have h9 := Nat.le_of_ble_eq_true h9
            have h11 := Nat.le_of_ble_eq_true h11
            have h12 := Nat.le_of_ble_eq_true h12
            have : ∃ L cap', σ b = some L ∧ cap ≤ cap' ∧ a.eval x = .slice (some ⟨L.blk, L.sh + off, none⟩) n cap' := by
              have := gop_VR he hv
              generalize a.eval x = y at this
              cases this with
              | slice _ _ _ _ L e => exact ⟨L, _, e, Nat.le_refl _, rfl⟩
              | sliceg _ _ _ _ _ L _ e _ e2 => exact ⟨L, _, e, e2, rfl⟩
            obtain ⟨L, cap', hL, hcc, hx⟩ := this
            have hb := run_bounds3 (P := P) (cap := cap') (gnat_ok he h1) (gnat_ok he h3) (gnat_ok (d := cap') he h5) rfl h9 h11 (Nat.le_trans h12 hcc) w
            simp only [Option.map_some] at hb
            refine OpOk.pure hS (x := .slice (some ⟨L.blk, L.sh + offAt l m off size, none⟩) (h - l) (m - l)) ?_ (.slice _ _ _ _ _ hL)
            simp only [execOp, ho, hx, Instr.sliceAt, Instr.slice, Sem.run_bind, run_underlying hu, Result.andThen_ok, Option.map_some]
            by_cases hc : m = l
            · subst hc; simp [offAt, hb, run_sizeOf hs]
            · have : Nat.beq l m = false := by cases e : Nat.beq l m with | false => rfl | true => exact absurd (Nat.eq_of_beq_eq_true e).symm hc
              simp [offAt, this, hc, add_addr, Nat.add_assoc, hb, run_sizeOf hs]
          · obtain ⟨l, h1, h2⟩ := obind_some hr
            obtain ⟨h, h3, h4⟩ := obind_some h2
            obtain ⟨m, h5, h6⟩ := obind_some h4
            obtain ⟨h7, h8⟩ := oif_some h6
            obtain rfl := Option.some.inj h8
            have h5 : (gnat (some m0)).run env 0 = some m := h5
            have h9 : l + (h + m) = 0 := Nat.eq_of_beq_eq_true h7
            have hl0 : l = 0 := by omega
            have hh0 : h = 0 := by omega
            have hm0 : m = 0 := by omega
            subst hl0; subst hh0; subst hm0
            have hvr := gop_VR he hv
            generalize hx : a.eval x = y at hvr
            cases hvr
            have hb := run_bounds3 (P := P) (ln := 0) (cap := 0) (gnat_ok he h1) (gnat_ok he h3) (gnat_ok he h5) rfl (Nat.le_refl _) (Nat.le_refl _) (Nat.le_refl _) w
            simp only [Option.map_some] at hb
            refine OpOk.pure hS (x := .slice none 0 0) ?_ .nilslice
            simp only [execOp, ho, hx, Instr.sliceAt, Instr.slice, Sem.run_bind, run_underlying hu, Result.andThen_ok, Option.map_some]
            simp [hb, run_sizeOf hs]
          · simp at hr
        · trivial
    · trivial
  · trivial


/- maps -/
theorem aMakeMap_ok (hS : SR π B σ H w) {t : Nat} (ho : o.op = .makeMap t none) : OpOk π B σ P o a H w (.val (.map H.next) (H.new (.map [] 0))) := by
  obtain ⟨σ', h1, h2, h3, h4⟩ := SR.new (w' := w.alloc (.map #[] 0)) hS (.map [] 0) ⟨w.heap.size, 0, 0⟩ rfl (fun k hk => heap_alloc_old w _ k hk) (by simp) ⟨rfl, rfl, rfl⟩
    (fun σ' _ => ⟨#[], heap_alloc_new w _, rfl, fun i e m h => by simp at h⟩)
  exact ⟨σ', .map (some w.heap.size), _, .inl (by simp [execOp, ho, Instr.makeMap]), .map _ _ h1, h2, h3, h4⟩

theorem beq_bytes (s t : ByteArray) : (s == t) = (s.data.toList == t.data.toList) := by
  have h1 : (s == t) = (s.data == t.data) := rfl
  rw [h1, Bool.eq_iff_iff]
  simp

theorem keyT_some {t kd : Nat} (h : keyT P t = some kd) : ∃ k e d, P.underlying t = some (.map k e) ∧ P.underlying k = some d ∧ kindD d = some kd := by
  obtain ⟨k, h1, h2⟩ := obind_some (show obind (obind (P.underlying t) mapD) (fun k => obind (P.underlying k) kindD) = some kd from h)
  obtain ⟨d, h3, h4⟩ := obind_some h1
  obtain ⟨d', h5, h6⟩ := obind_some h2
  unfold mapD at h4
  split at h4
  · rename_i k' e
    obtain rfl := Option.some.inj h4
    exact ⟨_, e, d', h3, h5, h6⟩
  · simp at h4

theorem run_checkKey {k : Nat} {d : TypeDesc} {kd : Nat} (hd : P.underlying k = some d) (hk : kindD d = some kd) (e : Bool) (v : Value) (w : World) : (Instr.checkKey e 10000 k v).run P w = .ok () w := by
  have : ∀ n, (Instr.checkKey e (n + 1) k v).run P w = .ok () w := fun n => by
    cases d <;> first | (simp [kindD] at hk; done) | simp [Instr.checkKey, run_underlying hd]
  exact this 9999

/-- two keys asked -/
theorem keyEq_ok {d : TypeDesc} {kd : Nat} {u v : AV} {x y : Value} {b : Bool} (hk : kindD d = some kd) (hku : keyK u = kd) (hu : VR π σ u x) (hv : VR π σ v y) (h : keyEq u v = some b) :
    Instr.sameNow d x y = some b ∧ (b = true → u = v ∧ ∀ n, Instr.sameBits n y x = true) := by
  unfold keyEq at h
  split at h
  · rename_i k n
    obtain rfl := VR.int_inv hu
    unfold keyInt at h
    split at h
    · rename_i k' n'
      obtain rfl := VR.int_inv hv
      obtain ⟨h1, h2⟩ := oif_some h
      obtain rfl := kEq_true h1
      obtain rfl := Option.some.inj h2
      rw [ieq_eq]
      refine ⟨?_, fun hb => ?_⟩
      · subst hku
        cases d <;> first | (simp [kindD, keyK] at hk; done) | simp [Instr.sameNow]
      · have : n = n' := by simpa using hb
        subst this
        exact ⟨rfl, fun m => by cases m <;> simp [Instr.sameBits]⟩
    · simp at h
  · rename_i l n
    obtain ⟨s, rfl, rfl, rfl⟩ := VR.str_inv hu
    unfold keyStr at h
    split at h
    · obtain ⟨s', rfl, rfl, rfl⟩ := VR.str_inv hv
      obtain rfl := Option.some.inj h
      rw [strEq_eq]
      refine ⟨?_, fun hb => ?_⟩
      · subst hku
        rw [← beq_bytes]
        cases d <;> first | (simp [kindD, keyK] at hk; done) | simp [Instr.sameNow]
      · have e : s.data.toList = s'.data.toList := by simpa using hb
        rw [e]
        exact ⟨rfl, fun m => by cases m <;> simp [Instr.sameBits, beq_bytes, e]⟩
    · simp at h
  · rename_i c
    obtain rfl := VR.bool_inv hu
    unfold keyBool at h
    split at h
    · rename_i c'
      obtain rfl := VR.bool_inv hv
      obtain rfl := Option.some.inj h
      rw [beqB_eq]
      refine ⟨?_, fun hb => ?_⟩
      · subst hku
        cases d <;> first | (simp [kindD, keyK] at hk; done) | simp [Instr.sameNow]
      · have : c = c' := by simpa using hb
        subst this
        exact ⟨rfl, fun m => by cases m <;> simp [Instr.sameBits]⟩
    · simp at h
  · rename_i l
    unfold keyOther at h
    split at h
    · obtain ⟨h1, h2⟩ := oif_some h
      obtain rfl := Option.some.inj h2
      obtain ⟨s, s', rfl, rfl, e1, e2⟩ := other_ne h1 hu hv
      refine ⟨?_, fun hb => by simp at hb⟩
      subst hku
      cases d <;> first | (simp [kindD, keyK] at hk; done) | simp [Instr.sameNow, e1]
    · simp at h
  · simp at h

theorem EntsR.cons_inv {e : Ent} {es : List Ent} {ms : List MapEntry} (h : EntsR π σ (e :: es) ms) : ∃ m ms', ms = m :: ms' ∧ EntR π σ e m ∧ EntsR π σ es ms' := by
  cases ms with
  | nil => have := h.1; simp at this
  | cons m ms' => exact ⟨m, ms', rfl, h.2 0 e m rfl rfl, ⟨by have := h.1; simpa using this, fun i a b h1 h2 => h.2 (i + 1) a b h1 h2⟩⟩

theorem find_ok {d : TypeDesc} {kd : Nat} {u : AV} {x : Value} (hk : kindD d = some kd) (hku : keyK u = kd) (hu : VR π σ u x) : ∀ (es : List Ent) (ms : List MapEntry) (i : Nat) (r : Option (Nat × AV)), EntsR π σ es ms → findEnt (keyEq u) es i = some r →
    (r = none ∧ Instr.findNow d x ms i = some none) ∨ ∃ j v y e m, r = some (i + j, v) ∧ Instr.findNow d x ms i = some (some (i + j, y)) ∧ VR π σ v y ∧ es[j]? = some e ∧ ms[j]? = some m ∧ u = e.key ∧ ∀ n, Instr.sameBits n m.key x = true
  | [], ms, i, r, hr, h => by
    obtain rfl := Option.some.inj (show some none = some r from h)
    have : ms = [] := List.eq_nil_of_length_eq_zero hr.1.symm
    subst this
    exact .inl ⟨rfl, rfl⟩
  | e :: es, ms, i, r, hr, h => by
    obtain ⟨m, ms', rfl, he, hrest⟩ := EntsR.cons_inv hr
    obtain ⟨b, h1, h2⟩ := obind_some (show obind (keyEq u e.key) (fun b => Bool.rec (findEnt (keyEq u) es (i + 1)) (some (some (i, e.val))) b) = some r from h)
    obtain ⟨k1, k2⟩ := keyEq_ok hk hku hu he.1 h1
    cases b with
    | true =>
      obtain rfl := Option.some.inj (show some (some (i, e.val)) = some r from h2)
      obtain ⟨k3, k4⟩ := k2 rfl
      exact .inr ⟨0, e.val, m.val, e, m, rfl, by simp [Instr.findNow, k1], he.2.1, rfl, rfl, k3, k4⟩
    | false =>
      rcases find_ok hk hku hu es ms' (i + 1) r hrest h2 with ⟨h3, h4⟩ | ⟨j, v, y, e', m', h3, h4, h5, h6, h7, h8, h9⟩
      · exact .inl ⟨h3, by simp [Instr.findNow, k1, h4]⟩
      · refine .inr ⟨j + 1, v, y, e', m', by rw [h3]; congr 2; omega, ?_, h5, by simpa using h6, by simpa using h7, h8, h9⟩
        simp only [Instr.findNow, k1, h4]
        congr 3; omega

theorem run_findKey {k : Nat} {d : TypeDesc} (hd : P.underlying k = some d) {x : Value} {ms : List MapEntry} {r : Option (Nat × Value)} (h : Instr.findNow d x ms 0 = some r) (w : World) : (Instr.findKey k x ms).run P w = .ok r w := by
  simp [Instr.findKey, run_underlying hd, h]

theorem Rel.map {b : Nat} {es : List Ent} {clock : Nat} (hS : SR π B σ H w) (hb : H.get b = some (.map es clock)) : ∃ L E, σ b = some L ∧ w.heap[L.blk]? = some (.map E clock) ∧ EntsR π σ es E.toList := by
  obtain ⟨L, h1, h2, E, h3, h4⟩ := hS.rel.obj b _ (know_of_get hb (by simp))
  exact ⟨L, E, h1, h3, h4⟩

theorem VR.map_inv {b : Nat} {x : Value} (h : VR π σ (.map b) x) : ∃ L, σ b = some L ∧ x = .map (some L.blk) := by
  cases h with
  | map _ L e => exact ⟨L, e, rfl⟩

theorem aLookup_ok (hS : SR π B σ H w) {env : Env} (he : EnvR π σ env a) {t : Nat} {m k : Operand} {ok : Bool} (ho : o.op = .lookup t m k ok) : OpOk π B σ P o a H w ((aLookup P t m k ok).run env H) := by
  unfold aLookup
  split
  · rename_i kd z hkd hz
    refine OpOk.ob fun u hu => OpOk.ob fun v hv => OpOk.oi fun hkk => OpOk.ob fun r hr => ?_
    obtain ⟨kt, e, d, h1, h2, h3⟩ := keyT_some hkd
    have hku := Nat.eq_of_beq_eq_true hkk
    have hvr := gop_VR he hv
    obtain ⟨e', h4, h5⟩ := obind_some hz
    have : e' = e := by unfold elemM at h4; rw [h1] at h4; exact (Option.some.inj h4).symm
    subst this
    obtain ⟨zv, h6, h7⟩ := run_zero h5
    have hchk := fun b => run_checkKey (P := P) h2 h3 b (a.eval k) w
    have okR : ∀ {x y b}, VR π σ x y → VR π σ (okOf ok x b) (if ok then .tuple #[y, .bool b] else y) := fun {x y b} hxy => by
      cases ok with
      | true => exact .tuple _ _ (.cons _ _ _ _ hxy (.cons _ _ _ _ (.bool _) .nil))
      | false => exact hxy
    unfold lookM at hr
    split at hr
    · obtain rfl := Option.some.inj hr
      have hm := gop_VR he hu
      generalize hx : a.eval m = y at hm
      cases hm
      refine OpOk.pure hS (x := if ok then .tuple #[zv, .bool false] else zv) ?_ (okR (h7 π σ))
      simp [execOp, ho, hx, Instr.lookup, run_underlying h1, hchk, run_findKey h2 (show Instr.findNow d (a.eval k) [] 0 = some none from rfl), h6]
    · rename_i b
      obtain ⟨ob, h8, h9⟩ := obind_some hr
      obtain ⟨L, hL, hx⟩ := VR.map_inv (gop_VR he hu)
      cases ob with
      | map es clock =>
        obtain ⟨L', E, g1, g2, g3⟩ := Rel.map hS h8
        obtain rfl : L' = L := by rw [hL] at g1; exact (Option.some.inj g1).symm
        have hg : (getObj L'.blk).run P w = .ok (.map E clock) w := by simp [getObj, Sem.run, g2]
        rcases find_ok h3 hku hvr es E.toList 0 r g3 h9 with ⟨rfl, f2⟩ | ⟨j, v', y, e'', m', rfl, f2, f3, _⟩
        · refine OpOk.pure hS (x := if ok then .tuple #[zv, .bool false] else zv) ?_ (okR (h7 π σ))
          simp [execOp, ho, hx, Instr.lookup, run_underlying h1, hg, hchk, run_findKey h2 f2, h6]
        · refine OpOk.pure hS (x := if ok then .tuple #[y, .bool true] else y) ?_ (okR f3)
          simp [execOp, ho, hx, Instr.lookup, run_underlying h1, hg, hchk, run_findKey h2 f2]
      | _ => exact absurd (show none = some r from h9) (by simp)
    · simp at hr
  · trivial


theorem updEnt_get (v : AV) : ∀ (es : List Ent) (n i : Nat), (updEnt v es n)[i]? = if i = n then (es[i]?).map (fun e => ⟨e.key, v, e.born⟩) else es[i]?
  | [], n, i => by show ([] : List Ent)[i]? = _; simp
  | e :: t, 0, i => by
    show ((⟨e.key, v, e.born⟩ :: t : List Ent))[i]? = _
    cases i <;> simp
  | e :: t, n + 1, i => by
    show ((e :: updEnt v t n : List Ent))[i]? = _
    cases i with
    | zero => simp
    | succ i => simp [updEnt_get v t n i]

theorem delEnt_eq : ∀ (es : List Ent) (n : Nat), delEnt es n = es.eraseIdx n
  | [], n => by show [] = _; simp
  | e :: t, 0 => rfl
  | e :: t, n + 1 => by show e :: delEnt t n = _; rw [delEnt_eq t n]; rfl

theorem ents_length_of_get {es es' : List Ent} (h : ∀ i : Nat, (es'[i]?).isSome = (es[i]?).isSome) : es'.length = es.length := by
  rcases Nat.lt_trichotomy es'.length es.length with h1 | h1 | h1
  · have := h es'.length
    rw [List.getElem?_eq_none (Nat.le_refl _), List.getElem?_eq_getElem h1] at this
    simp at this
  · exact h1
  · have := h es.length
    rw [List.getElem?_eq_none (Nat.le_refl es.length), List.getElem?_eq_getElem h1] at this
    simp at this

theorem setObj_world {w : World} {r : Nat} {E : Array MapEntry} {c : Nat} (h : w.heap[r]? = some (.map E c)) (o : Go.Obj) : (setObj r o).run P w = .ok () { w with heap := w.heap.setIfInBounds r o } := by
  simp [setObj, Sem.run, h]

/-- a map's block, set anew -/
theorem map_put (hS : SR π B σ H w) {b : Nat} {u : Obj} {L : Loc} (hu : H.know b = some u) (hL : σ b = some L) {es : List Ent} {clock : Nat} {E : Array MapEntry} (hr : EntsR π σ es E.toList) :
    SR π B σ (H.put b (.map es clock)) { w with heap := w.heap.setIfInBounds L.blk (.map E clock) } ∧ Ext σ H.know w σ (H.put b (.map es clock)).know { w with heap := w.heap.setIfInBounds L.blk (.map E clock) } ∧ Nx σ H σ (H.put b (.map es clock)) := by
  have hlt : L.blk < w.heap.size := by
    obtain ⟨L', h1, h2, h3⟩ := hS.rel.obj b u hu
    rw [hL] at h1; obtain rfl := Option.some.inj h1
    exact h3.lt
  exact SR.put hS b (.map es clock) u L hu hL (fun k hk => by simp [Ne.symm hk]) (by simp) ⟨rfl, rfl, rfl⟩ ⟨E, by simp [hlt], hr⟩

theorem OpOk.ho {x : Option Heap} (h : ∀ H', x = some H' → OpOk π B σ P o a H w (.val (.tuple []) H')) : OpOk π B σ P o a H w (ho x) := by
  cases x with
  | none => trivial
  | some v => exact h v rfl

theorem aUpdate_ok (hS : SR π B σ H w) {env : Env} (he : EnvR π σ env a) {t : Nat} {m k v : Operand} (hop : o.op = .mapUpdate t m k v ∨ o.op = .insert t m k v) : OpOk π B σ P o a H w ((aUpdate P t m k v).run env H) := by
  unfold aUpdate
  split
  · rename_i kd hkd
    refine OpOk.ob fun mv hm => OpOk.ob fun kv hk => OpOk.ob fun vv hv => OpOk.ob fun b hb => OpOk.oi fun hkk => OpOk.ho fun H' hH' => ?_
    have hku := Nat.eq_of_beq_eq_true hkk
    obtain ⟨kt, e, d, h1, h2, h3⟩ := keyT_some hkd
    have hmb : mv = .map b := by
      unfold mapOf at hb
      split at hb
      · obtain rfl := Option.some.inj hb; rfl
      · simp at hb
    subst hmb
    obtain ⟨L, hL, hx⟩ := VR.map_inv (gop_VR he hm)
    obtain ⟨ob, h8, h9⟩ := obind_some hH'
    cases ob with
    | map es clock =>
      obtain ⟨r, h10, h11⟩ := obind_some (show obind (findEnt (keyEq kv) es 0) (fun r => some (H.put b (Option.rec (.map (app es [⟨kv, vv, clock⟩]) (Nat.succ clock)) (fun q => .map (updEnt vv es q.1) clock) r))) = some H' from h9)
      obtain rfl := Option.some.inj h11
      obtain ⟨L', E, g1, g2, g3⟩ := Rel.map hS h8
      obtain rfl : L' = L := by rw [hL] at g1; exact (Option.some.inj g1).symm
      have hg : (getObj L'.blk).run P w = .ok (.map E clock) w := by simp [getObj, Sem.run, g2]
      have hchk := run_checkKey (P := P) h2 h3 false (a.eval k) w
      have hkn := know_of_get h8 (by simp)
      rcases find_ok h3 hku (gop_VR he hk) es E.toList 0 r g3 h10 with ⟨rfl, f2⟩ | ⟨j, v', y, e'', m', rfl, f2, f3, f4, f5, f6, f7⟩
      · obtain ⟨k1, k2, kx⟩ := map_put hS hkn hL (es := app es [⟨kv, vv, clock⟩]) (clock := clock + 1) (E := E.push ⟨a.eval k, a.eval v, clock⟩) (by
          rw [app_eq]
          refine ⟨by simp [g3.1], fun i x y hx hy => ?_⟩
          rw [Array.toList_push] at hy
          have hl := g3.1
          rcases Nat.lt_trichotomy i es.length with hi | hi | hi
          · rw [List.getElem?_append_left hi] at hx
            rw [List.getElem?_append_left (by omega)] at hy
            exact g3.2 i x y hx hy
          · rw [List.getElem?_append_right (by omega), hi, Nat.sub_self] at hx
            rw [List.getElem?_append_right (by omega), hi, hl, Nat.sub_self] at hy
            obtain rfl := Option.some.inj hx
            obtain rfl := Option.some.inj hy
            exact ⟨gop_VR he hk, gop_VR he hv, rfl⟩
          · rw [List.getElem?_eq_none (by simp; omega)] at hx; simp at hx)
        refine ⟨σ, undef, _, .inr ⟨?_, rfl⟩, undef_VR, k1, k2, kx⟩
        rcases hop with hop | hop <;> simp [execOp, hop, hx, Instr.mapUpdate, run_underlying h1, hg, hchk, run_findKey h2 f2, setObj_world g2]
      · have hj : j < E.size := by
          rcases Nat.lt_or_ge j E.toList.length with h' | h'
          · simpa using h'
          · rw [List.getElem?_eq_none h'] at f5; simp at f5
        have f5' : E[j]? = some m' := by simpa using f5
        obtain ⟨k1, k2, kx⟩ := map_put hS hkn hL (es := updEnt vv es (0 + j)) (clock := clock) (E := E.modify j fun e => { e with key := a.eval k, val := a.eval v }) (by
          refine ⟨?_, fun i x y hx hy => ?_⟩
          · rw [ents_length_of_get (es := es) (fun i => by rw [updEnt_get]; split <;> simp)]
            rw [g3.1]; simp
          · rw [updEnt_get] at hx
            rw [Array.getElem?_toList, Array.getElem?_modify] at hy
            by_cases hi : i = j
            · subst hi
              rw [if_pos (by omega)] at hx
              rw [if_pos rfl, f5'] at hy
              rw [f4] at hx
              obtain rfl := Option.some.inj hx
              obtain rfl := Option.some.inj hy
              have := g3.2 i e'' m' f4 f5
              exact ⟨f6 ▸ gop_VR he hk, gop_VR he hv, this.2.2⟩
            · rw [if_neg (by omega)] at hx
              rw [if_neg (fun e => hi e.symm)] at hy
              exact g3.2 i x y hx (by simpa using hy))
        refine ⟨σ, undef, _, .inr ⟨?_, rfl⟩, undef_VR, k1, k2, kx⟩
        rw [Nat.zero_add] at f2
        have hks : (Instr.keyThatStays m'.key (a.eval k)).run P w = .ok (a.eval k) w := by simp [Instr.keyThatStays, f7]
        rcases hop with hop | hop <;> simp [execOp, hop, hx, Instr.mapUpdate, run_underlying h1, hg, hchk, run_findKey h2 f2, f5', hks, setObj_world g2]
    | _ => exact absurd (show none = some H' from h9) (by simp)
  · trivial

theorem aDelete_ok (hS : SR π B σ H w) {env : Env} (he : EnvR π σ env a) {t : Nat} {ts : Array TypeId} {m k : Operand} (hts : ts[0]? = some t) (hop : o.op = .call { callee := .builtin .delete, args := #[m, k], argTypes := ts }) : OpOk π B σ P o a H w ((aDelete P t m k).run env H) := by
  unfold aDelete
  split
  · rename_i kd hkd
    refine OpOk.ob fun mv hm => OpOk.ob fun kv hk => OpOk.ob fun b hb => OpOk.oi fun hkk => OpOk.ho fun H' hH' => ?_
    have hku := Nat.eq_of_beq_eq_true hkk
    obtain ⟨kt, e, d, h1, h2, h3⟩ := keyT_some hkd
    have hmb : mv = .map b := by
      unfold mapOf at hb
      split at hb
      · obtain rfl := Option.some.inj hb; rfl
      · simp at hb
    subst hmb
    obtain ⟨L, hL, hx⟩ := VR.map_inv (gop_VR he hm)
    obtain ⟨ob, h8, h9⟩ := obind_some hH'
    cases ob with
    | map es clock =>
      obtain ⟨r, h10, h11⟩ := obind_some (show obind (findEnt (keyEq kv) es 0) (fun r => some (Option.rec H (fun q => H.put b (.map (delEnt es q.1) clock)) r)) = some H' from h9)
      obtain ⟨L', E, g1, g2, g3⟩ := Rel.map hS h8
      obtain rfl : L' = L := by rw [hL] at g1; exact (Option.some.inj g1).symm
      have hg : (getObj L'.blk).run P w = .ok (.map E clock) w := by simp [getObj, Sem.run, g2]
      have hchk := fun e => run_checkKey (P := P) h2 h3 e (a.eval k) w
      have hkn := know_of_get h8 (by simp)
      rcases find_ok h3 hku (gop_VR he hk) es E.toList 0 r g3 h10 with ⟨rfl, f2⟩ | ⟨j, v', y, e'', m', rfl, f2, f3, f4, f5, f6, f7⟩
      · obtain rfl := Option.some.inj h11
        have hself : { w with heap := w.heap.setIfInBounds L'.blk (.map E clock) } = w := by
          have : w.heap.setIfInBounds L'.blk (.map E clock) = w.heap := by
            apply Array.ext_getElem?
            intro i
            rw [Array.getElem?_setIfInBounds]
            split
            · rename_i e; subst e
              split
              · exact g2.symm
              · rename_i hn; rw [Array.getElem?_eq_none (Nat.le_of_not_lt hn)] at g2; simp at g2
            · rfl
          rw [this]
        refine ⟨σ, .tuple #[], w, .inl ?_, .tuple _ _ .nil, hS, Ext.refl _ _ _, Nx.refl _ _⟩
        have hso := setObj_world (P := P) g2 (.map E clock)
        rw [hself] at hso
        simp [execOp, hop, resolve, invoke, builtin, Builtin.delete_, hts, hx, run_underlying h1, hg, hchk, run_findKey h2 f2, hso]
      · obtain rfl := Option.some.inj h11
        rw [Nat.zero_add] at f2
        obtain ⟨k1, k2, kx⟩ := map_put hS hkn hL (es := delEnt es (0 + j)) (clock := clock) (E := E.eraseIdxIfInBounds j) (by
          rw [delEnt_eq, Nat.zero_add, Array.toList_eraseIdxIfInBounds]
          refine ⟨by simp [List.length_eraseIdx, g3.1], fun i x y hx hy => ?_⟩
          rw [List.getElem?_eraseIdx] at hx hy
          split at hx
          · rename_i hi
            rw [if_pos hi] at hy
            exact g3.2 i x y hx hy
          · rename_i hi
            rw [if_neg hi] at hy
            exact g3.2 (i + 1) x y hx hy)
        refine ⟨σ, .tuple #[], _, .inl ?_, .tuple _ _ .nil, k1, k2, kx⟩
        simp [execOp, hop, resolve, invoke, builtin, Builtin.delete_, hts, hx, run_underlying h1, hg, hchk, run_findKey h2 f2, setObj_world g2]
    | _ => exact absurd (show none = some H' from h9) (by simp)
  · trivial

theorem lenX_ok {v : AV} {n : Nat} {x : Value} (hx : VR π σ v x) (h : lenX v = some n) : (∃ q c, x = .slice q n c) ∨ ∃ s : ByteArray, x = .string s ∧ s.size = n := by
  unfold lenX at h
  split at h
  · obtain rfl := Option.some.inj h
    cases hx
    · exact .inl ⟨_, _, rfl⟩
    · exact .inl ⟨_, _, rfl⟩
  · obtain rfl := Option.some.inj h; cases hx; exact .inl ⟨_, _, rfl⟩
  · obtain rfl := Option.some.inj h; cases hx; exact .inl ⟨_, _, rfl⟩
  · obtain rfl := Option.some.inj h
    obtain ⟨s, rfl, e, _⟩ := VR.str_inv hx
    exact .inr ⟨s, rfl, by rw [e, Array.length_toList]; rfl⟩
  · simp at h

theorem aLen_ok (hS : SR π B σ H w) {env : Env} (he : EnvR π σ env a) {t : Nat} {ts : Array TypeId} {x : Operand} (hts : ts[0]? = some t) (hop : o.op = .call { callee := .builtin .len, args := #[x], argTypes := ts }) :
    OpOk π B σ P o a H w ((aLen P t x).run env H) := by
  unfold aLen
  split
  · rename_i hu
    refine OpOk.ob fun v hv => OpOk.ob fun n hn => ?_
    unfold lenStr at hn
    split at hn
    · obtain rfl := Option.some.inj hn
      obtain ⟨s, hx, e, _⟩ := VR.str_inv (gop_VR he hv)
      have hs : s.size = _ := (Array.length_toList.symm.trans e.symm : s.data.size = _)
      exact OpOk.pure hS (x := .int .i64 (s.size : Int)) (by simp [execOp, hop, resolve, invoke, builtin, Builtin.len_, hts, hx, run_underlying hu, goInt]) (by rw [hs]; exact .int _ _)
    · simp at hn
  · rename_i e hu
    refine OpOk.ob fun v hv => OpOk.ob fun n hn => ?_
    have : ∃ q c, a.eval x = .slice q n c := by
      have := gop_VR he hv
      unfold lenSl at hn
      split at hn <;> first | (simp at hn; done) | (obtain rfl := Option.some.inj hn; generalize a.eval x = y at this; cases this <;> exact ⟨_, _, rfl⟩)
    obtain ⟨q, c, hx⟩ := this
    exact OpOk.pure hS (x := .int .i64 n) (by simp [execOp, hop, resolve, invoke, builtin, Builtin.len_, hts, hx, run_underlying hu, goInt]) (.int _ _)
  · rename_i k e hu
    refine OpOk.ob fun v hv => OpOk.ob fun n hn => ?_
    unfold lenA at hn
    split at hn
    · obtain rfl := Option.some.inj hn
      have hx := gop_VR he hv
      generalize hy : a.eval x = y at hx
      cases hx
      exact OpOk.pure hS (x := .int .i64 0) (by simp [execOp, hop, resolve, invoke, builtin, Builtin.len_, hts, hy, run_underlying hu, goInt]) (.int _ _)
    · rename_i b
      obtain ⟨ob, h8, h9⟩ := obind_some hn
      obtain ⟨L, hL, hx⟩ := VR.map_inv (gop_VR he hv)
      cases ob with
      | map es clock =>
        obtain rfl := Option.some.inj (show some (len es) = some n from h9)
        obtain ⟨L', E, g1, g2, g3⟩ := Rel.map hS h8
        obtain rfl : L' = L := by rw [hL] at g1; exact (Option.some.inj g1).symm
        have hg : (getObj L'.blk).run P w = .ok (.map E clock) w := by simp [getObj, Sem.run, g2]
        refine OpOk.pure hS (x := .int .i64 E.size) (by simp [execOp, hop, resolve, invoke, builtin, Builtin.len_, hts, hx, run_underlying hu, goInt, hg]) ?_
        have : len es = E.size := by rw [len_eq, g3.1, Array.length_toList]
        rw [this]; exact .int _ _
      | _ => exact absurd (show none = some n from h9) (by simp)
    · simp at hn
  · rename_i n e hu
    refine OpOk.pure hS (x := .int .i64 n) ?_ (.int _ _)
    simp [execOp, hop, resolve, invoke, builtin, Builtin.len_, hts, run_underlying hu, goInt]
  · trivial

theorem data_ok (hS : SR π B σ H w) {env : Env} (he : EnvR π σ env a) {ts : Array TypeId} {x : Operand} (hop : o.op = .call { callee := .builtin .unsafeSliceData, args := #[x], argTypes := ts }) :
    OpOk π B σ P o a H w (ob ((gop x).run env) fun v => vo H (dataA v)) :=
  OpOk.ob fun v hv => OpOk.vo fun r hr => by
    have hv := gop_VR he hv
    have go : ∀ (y z : Value), a.eval x = y → (Builtin.unsafeSliceData_ ts o.type #[y]).run P w = .ok z w → VR π σ r z → OpOk π B σ P o a H w (.val r H) := fun y z hy hr hz =>
      OpOk.pure hS (x := z) (by simp [execOp, hop, resolve, invoke, builtin, hy, hr]) hz
    unfold dataA at hr
    split at hr
    · rename_i b off n cap g
      obtain ⟨h1, h2⟩ := oif_some hr
      obtain rfl := Option.some.inj h2
      have hc := blt_lt h1
      generalize hy : a.eval x = y at hv
      cases hv with
      | slice _ _ _ _ L hL => exact go _ _ hy (Lib.run_unsafeSliceData_row w ts o.type _ _ _ (by omega)) (.ptr _ _ _ hL)
      | sliceg _ _ _ _ g' L cap' hL hmc hcc hcs => exact go _ _ hy (Lib.run_unsafeSliceData_row w ts o.type _ _ _ (by omega)) (.ptr _ _ _ hL)
    · obtain rfl := Option.some.inj hr
      generalize hy : a.eval x = y at hv
      cases hv
      exact go _ _ hy (Lib.run_unsafeSliceData_nil w ts o.type _ _) .nilptr
    · simp at hr

theorem cap_ok (hS : SR π B σ H w) {env : Env} (he : EnvR π σ env a) {t : Nat} {ts : Array TypeId} {x : Operand} (hts : ts[0]? = some t) (hop : o.op = .call { callee := .builtin .cap, args := #[x], argTypes := ts }) :
    OpOk π B σ P o a H w ((aCap P t x).run env H) := by
  unfold aCap
  split
  · rename_i e ht
    refine OpOk.ob fun v hv => OpOk.vo fun r hr => ?_
    have hv := gop_VR he hv
    generalize hy : a.eval x = y at hv
    unfold capA at hr
    split at hr
    · obtain rfl := Option.some.inj hr
      cases hv
      exact OpOk.pure hS (x := .int .i64 (.ofNat _)) (by simp [execOp, hop, resolve, invoke, builtin, Builtin.cap_, hy, goInt, hts, run_underlying ht]) (.int _ _)
    · obtain rfl := Option.some.inj hr
      cases hv
      exact OpOk.pure hS (x := .int .i64 (.ofNat 0)) (by simp [execOp, hop, resolve, invoke, builtin, Builtin.cap_, hy, goInt, hts, run_underlying ht]) (.int _ _)
    · simp at hr
  · trivial

theorem max2_ok (hS : SR π B σ H w) {env : Env} (he : EnvR π σ env a) {ts : Array TypeId} {x y : Operand} (hop : o.op = .call { callee := .builtin .max, args := #[x, y], argTypes := ts }) :
    OpOk π B σ P o a H w (ob ((gop x).run env) fun a => ob ((gop y).run env) fun b => vo H (max2 a b)) :=
  OpOk.ob fun v hv => OpOk.ob fun u hu => OpOk.vo fun r hr => by
    unfold max2 at hr
    split at hr
    · rename_i k m k' n
      obtain ⟨h1, h2⟩ := oif_some hr
      obtain rfl := kEq_true h1
      obtain rfl := Option.some.inj h2
      have hx := VR.int_inv (gop_VR he hv)
      have hy := VR.int_inv (gop_VR he hu)
      refine OpOk.pure hS (x := .int k (if n > m then n else m)) (by simp [execOp, hop, resolve, invoke, builtin, Builtin.max_, hx, hy, Builtin.max2]) ?_
      rw [ilt_eq]
      by_cases h : m < n
      · rw [decide_eq_true h, if_pos h]; exact .int _ _
      · rw [decide_eq_false h, if_neg h]; exact .int _ _
    · rename_i c d
      obtain ⟨h1, h2⟩ := oif_some hr
      obtain rfl := Option.some.inj h2
      rw [bnot_eq, ilt_eq] at h1
      have h1 : ¬ d < c := by simpa using h1
      have hx := gop_VR he hv
      have hy := VR.int_inv (gop_VR he hu)
      generalize hz : a.eval x = z at hx
      cases hx with
      | le _ m hm =>
        refine OpOk.pure hS (x := .int .i64 (if d > m then d else m)) (by simp [execOp, hop, resolve, invoke, builtin, Builtin.max_, hz, hy, Builtin.max2]) ?_
        have : (if d > m then d else m) = d := by split <;> omega
        rw [this]; exact .int _ _
    · rename_i c d
      obtain ⟨h1, h2⟩ := oif_some hr
      obtain rfl := Option.some.inj h2
      rw [bnot_eq, ilt_eq] at h1
      have h1 : ¬ c < d := by simpa using h1
      have hx := gop_VR he hv
      have hy := VR.int_inv (gop_VR he hu)
      generalize hz : a.eval x = z at hx
      cases hx with
      | ge _ m hm =>
        refine OpOk.pure hS (x := .int .i64 (if d > m then d else m)) (by simp [execOp, hop, resolve, invoke, builtin, Builtin.max_, hz, hy, Builtin.max2]) ?_
        have : (if d > m then d else m) = m := by split <;> omega
        rw [this]; exact .ge _ _ hm
    · simp at hr

theorem min2_ok (hS : SR π B σ H w) {env : Env} (he : EnvR π σ env a) {ts : Array TypeId} {x y : Operand} (hop : o.op = .call { callee := .builtin .min, args := #[x, y], argTypes := ts }) :
    OpOk π B σ P o a H w (ob ((gop x).run env) fun a => ob ((gop y).run env) fun b => vo H (min2 a b)) :=
  OpOk.ob fun v hv => OpOk.ob fun u hu => OpOk.vo fun r hr => by
    unfold min2 at hr
    split at hr
    · rename_i k m k' n
      obtain ⟨h1, h2⟩ := oif_some hr
      obtain rfl := kEq_true h1
      obtain rfl := Option.some.inj h2
      have hx := VR.int_inv (gop_VR he hv)
      have hy := VR.int_inv (gop_VR he hu)
      refine OpOk.pure hS (x := .int k (if n < m then n else m)) (by simp [execOp, hop, resolve, invoke, builtin, Builtin.min_, hx, hy, Builtin.min2]) ?_
      rw [ilt_eq]
      by_cases h : n < m
      · rw [decide_eq_true h, if_pos h]; exact .int _ _
      · rw [decide_eq_false h, if_neg h]; exact .int _ _
    · rename_i c d
      obtain ⟨h1, h2⟩ := oif_some hr
      obtain rfl := Option.some.inj h2
      rw [bnot_eq, ilt_eq] at h1
      have h1 : ¬ d < c := by simpa using h1
      have hx := gop_VR he hv
      have hy := VR.int_inv (gop_VR he hu)
      generalize hz : a.eval x = z at hx
      cases hx with
      | le _ m hm =>
        refine OpOk.pure hS (x := .int .i64 (if d < m then d else m)) (by simp [execOp, hop, resolve, invoke, builtin, Builtin.min_, hz, hy, Builtin.min2]) ?_
        have : (if d < m then d else m) = m := by split <;> omega
        rw [this]; exact .le _ _ hm
    · rename_i c d
      obtain ⟨h1, h2⟩ := oif_some hr
      obtain rfl := Option.some.inj h2
      rw [bnot_eq, ilt_eq] at h1
      have h1 : ¬ c < d := by simpa using h1
      have hx := gop_VR he hv
      have hy := VR.int_inv (gop_VR he hu)
      generalize hz : a.eval x = z at hx
      cases hx with
      | ge _ m hm =>
        refine OpOk.pure hS (x := .int .i64 (if d < m then d else m)) (by simp [execOp, hop, resolve, invoke, builtin, Builtin.min_, hz, hy, Builtin.min2]) ?_
        have : (if d < m then d else m) = d := by split <;> omega
        rw [this]; exact .int _ _
    · simp at hr

/- what is appended, copied -/
theorem bytesA_eq : ∀ (l : List UInt8) (n : Nat), n ≤ l.length → VRL π σ (bytesA n (bitsOf l)) ((l.take n).map fun b => Value.int .u8 (b.toNat : Int))
  | _, 0, _ => by simp; exact .nil
  | [], n + 1, h => by simp at h
  | b :: t, n + 1, h => by
    have hb := b.toNat_lt
    have e1 : Nat.mod (bitsOf (b :: t)) 256 = b.toNat := by show (b.toNat + 256 * bitsOf t) % 256 = _; omega
    have e2 : Nat.div (bitsOf (b :: t)) 256 = bitsOf t := by show (b.toNat + 256 * bitsOf t) / 256 = _; omega
    show VRL π σ (.int .u8 (.ofNat (Nat.mod (bitsOf (b :: t)) 256)) :: bytesA n (Nat.div (bitsOf (b :: t)) 256)) _
    rw [e1, e2]
    exact .cons _ _ _ _ (.int _ _) (bytesA_eq t n (by simpa using h))

theorem first_ok (hS : SR π B σ H w) {size n : Nat} {v : AV} {x : Value} (hx : VR π σ v x) {new : List AV} (h : firstA H size n v = some new) :
    ∃ xs : Array Value, (∀ w', w'.heap = w.heap → (Builtin.firstCells size n x).run P w' = .ok xs w') ∧ VRL π σ new xs.toList ∧ ((∃ b : ByteArray, x = .string b ∧ xs.size = n) ∨ ((∀ b, x ≠ .string b) ∧ xs.size = n * size)) := by
  unfold firstA at h
  split at h
  · rename_i b off m cap g
    obtain ⟨h1, h2⟩ := oif_some h
    have : ∃ L cap', σ b = some L ∧ x = .slice (some ⟨L.blk, L.sh + off, none⟩) m cap' := by
      cases hx with
      | slice _ _ _ _ L e => exact ⟨L, _, e, rfl⟩
      | sliceg _ _ _ _ _ L _ e => exact ⟨L, _, e, rfl⟩
    obtain ⟨L, cap', hL, rfl⟩ := this
    obtain ⟨xs, k1, k2, k3⟩ := rd_run hS h2 hL
    have := fun (w' : World) (hw : w'.heap = w.heap) => run_loadCells_list (P := P) w' ⟨L.blk, L.sh + off, none⟩ xs (fun j y hy => by
      have := k3 j y hy
      simpa [World.cell?, hw] using this)
    rw [k1] at this
    exact ⟨xs.toArray, fun w' hw => by simpa [Builtin.firstCells] using this w' hw, by simpa using k2, .inr ⟨fun b => by simp, by simpa using k1⟩⟩
  · obtain ⟨h1, h2⟩ := oif_some h
    obtain rfl := Option.some.inj h2
    have hn : n = 0 := Nat.eq_of_beq_eq_true h1
    subst hn
    cases hx
    exact ⟨#[], fun _ _ => by simp [Builtin.firstCells], .nil, .inr ⟨fun b => by simp, by simp⟩⟩
  · obtain ⟨h1, h2⟩ := oif_some h
    obtain rfl := Option.some.inj h2
    have hn : n = 0 := Nat.eq_of_beq_eq_true h1
    subst hn
    cases hx
    exact ⟨#[], fun _ _ => by simp [Builtin.firstCells, loadCells, loadCellsFrom], .nil, .inr ⟨fun b => by simp, by simp⟩⟩
  · rename_i m bits
    obtain ⟨h1, h2⟩ := oif_some h
    obtain rfl := Option.some.inj h2
    obtain ⟨s, rfl, rfl, rfl⟩ := VR.str_inv hx
    have hn := Nat.le_of_ble_eq_true h1
    refine ⟨(s.extract 0 n).data.map fun b => .int .u8 b.toNat, fun _ _ => by simp [Builtin.firstCells], ?_, .inl ⟨s, rfl, ?_⟩⟩
    · rw [Array.toList_map, extract_list]
      simpa using bytesA_eq s.data.toList n hn
    · rw [Array.size_map, ← Array.length_toList, extract_list]
      simp; rw [Array.length_toList] at hn; show min n s.data.size = n; omega
  · simp at h

theorem VRL.ones (hπ : ∀ i, (π i).oneCell' = true) : ∀ {l : List AV} {xs : List Value}, VRL π σ l xs → allb l = true → ∀ z ∈ xs, z.oneCell' = true
  | _, _, .nil, _, _, h => by simp at h
  | _, _, .cons v x l xs a b, h, z, hz => by
    obtain ⟨h1, h2⟩ := band_true (show band (scalar v) (allb l) = true from h)
    cases hz with
    | head => exact VR.oneCell hπ a h1
    | tail _ hm => exact VRL.ones hπ b h2 z hm

theorem aCopy_ok (hπ : ∀ i, (π i).oneCell' = true) (hS : SR π B σ H w) {env : Env} (he : EnvR π σ env a) {t : Nat} {ts : Array TypeId} {x y : Operand} (hts : ts[0]? = some t) (hop : o.op = .call { callee := .builtin .copy, args := #[x, y], argTypes := ts }) :
    OpOk π B σ P o a H w ((aCopy P t x y).run env H) := by
  unfold aCopy
  split
  · rename_i elem hel
    split
    · rename_i size hs
      refine OpOk.ob fun v hv => OpOk.ob fun u hu => OpOk.ob fun m hm => ?_
      have hy := gop_VR he hu
      have hx0 := gop_VR he hv
      have hel' := elemS_some hel
      have hlen : (Builtin.lenOf (a.eval y)).run P w = .ok m w := by
        rcases lenX_ok hy hm with ⟨q', c, e⟩ | ⟨s, e, e2⟩ <;> rw [e] <;> simp [Builtin.lenOf]
        exact e2
      unfold copyTo
      split
      · rename_i b off n _ _
        refine OpOk.ob fun new hnew => OpOk.oi fun hall => OpOk.ob fun H' hH' => ?_
        have : ∃ L cap', σ b = some L ∧ a.eval x = .slice (some ⟨L.blk, L.sh + off, none⟩) n cap' := by
          generalize a.eval x = z at hx0
          cases hx0 with
          | slice _ _ _ _ L e => exact ⟨L, _, e, rfl⟩
          | sliceg _ _ _ _ _ L _ e => exact ⟨L, _, e, rfl⟩
        obtain ⟨L, cap', hL, hx⟩ := this
        obtain ⟨xs, k1, k2, k3⟩ := first_ok (P := P) hS hy hnew
        have hone := k2.ones hπ hall
        obtain ⟨w', g1, g2, g3, g4⟩ := wr_run P hS hH' hL k2 hone
        refine ⟨σ, .int .i64 (Nat.min m n : Nat), w', .inl ?_, .int _ _, g2, g3, g4⟩
        simp [execOp, hop, resolve, invoke, builtin, Builtin.copy_, hts, hx, run_underlying hel', hlen, run_sizeOf hs, k1 w rfl, g1, goInt]
      · refine OpOk.ob fun new hnew => ?_
        cases new with
        | cons _ _ => trivial
        | nil =>
          obtain ⟨xs, k1, k2, _⟩ := first_ok (P := P) hS hy hnew
          have : xs = #[] := by
            cases xs with
            | mk l =>
              cases l with
              | nil => rfl
              | cons _ _ => cases k2
          subst this
          have : ∃ z cap', a.eval x = .slice (some z) 0 cap' := by
            generalize a.eval x = z at hx0
            cases hx0 with
            | eslice z cap => exact ⟨z, cap, rfl⟩
          obtain ⟨z, cap', hx⟩ := this
          refine OpOk.pure (x := .int .i64 (0 : Nat)) hS ?_ (.int _ _)
          simp [execOp, hop, resolve, invoke, builtin, Builtin.copy_, hts, hx, run_underlying hel', hlen, run_sizeOf hs, k1 w rfl, storeCells, goInt]
      · trivial
    · trivial
  · trivial


theorem cap_bound {need c : Nat} (h : c < need) : Builtin.nextslicecap need c ≤ 2 * need + 1000 := by
  have grow : ∀ (r d : Nat), d ≤ 2 * need + 1000 → Builtin.growBy need r d ≤ 2 * need + 1000 := by
    intro r
    induction r with
    | zero => intro d hd; exact hd
    | succ r ih =>
      intro d hd
      unfold Builtin.growBy
      split
      · exact hd
      · exact ih _ (by omega)
  unfold Builtin.nextslicecap
  split
  · omega
  · split
    · omega
    · exact grow _ _ (by omega)

structure AppT (P : Program) (t u elem size : Nat) (i : TypeInfo) (v : Value) : Prop where
  ht : P.underlying t = some (.slice elem)
  hu : ∃ d, P.underlying u = some d ∧ manyD d = true
  hs : sizeT P elem = some size
  hi : P.info? elem = some i
  hz : i.zero = some v
  hv : v.cells.size = size
  hb : i.bytes ≤ 1000
  pos : 0 < size

theorem appT_some {t u : Nat} {q : Nat × Nat} (h : appT P t u = some q) : ∃ i v, AppT P t u q.1 q.2 i v := by
  obtain ⟨elem, h1, h2⟩ := obind_some h
  obtain ⟨h3, h4⟩ := oif_some h2
  obtain ⟨size, h5, h6⟩ := obind_some h4
  obtain ⟨z, h7, h8⟩ := obind_some h6
  obtain ⟨by', h9, h10⟩ := obind_some h8
  obtain ⟨h11, h12⟩ := oif_some h10
  obtain rfl := Option.some.inj h12
  obtain ⟨h13, h14⟩ := band_true h11
  obtain ⟨i, v, g1, g2, g3⟩ := zeroT_some h7
  obtain ⟨i', f1, f2⟩ := obind_some (show obind (P.info? elem) (fun i => oif (Nat.ble i.bytes 1000) (obind i.zero fun _ => some i.bytes)) = some by' from h9)
  obtain rfl : i' = i := by rw [g1] at f1; exact (Option.some.inj f1).symm
  obtain ⟨f3, _⟩ := oif_some f2
  refine ⟨i', v, elemS_some h1, ?_, h5, g1, g2, ?_, Nat.le_of_ble_eq_true f3, blt_lt h13⟩
  · unfold noInt at h3
    cases hu : P.underlying u with
    | none => rw [hu] at h3; simp at h3
    | some d =>
      rw [hu] at h3
      exact ⟨d, rfl, h3⟩
  · have hl : z.cells.length = size := by rw [← len_eq]; exact Nat.eq_of_beq_eq_true h14
    unfold ofV at g3
    split at g3
    · obtain ⟨l, e1, e2⟩ := obind_some g3
      obtain rfl := Option.some.inj e2
      have := (mapO_VRL (π := fun _ => undef) (σ := fun _ => none) _ e1).length
      simp at this
      exact this.trans hl
    · obtain ⟨x, e1, e2⟩ := obind_some g3
      obtain rfl := Option.some.inj e2
      exact hl
    · obtain rfl := Option.some.inj g3
      exact hl
    · rename_i hna hni hnt
      unfold ofS at g3
      split at g3 <;> first | (simp at g3; done) | (obtain rfl := Option.some.inj g3; exact hl)

section
variable {t u ty elem size : Nat} {i : TypeInfo} {v : Value}

/-- where there is no room: a new row -/
theorem append_new (hT : AppT P t u elem size i v) {base : Option Addr} {m cap n : Nat} {x : Value} (hx : ∀ w, (Builtin.lenOf x).run P w = .ok n w) {new old : Array Value}
    (hnew : ∀ w', w'.heap = w.heap → (Builtin.firstCells size n x).run P w' = .ok new w') (hold : ∀ w', w'.heap = w.heap → (Builtin.firstCells size m (.slice base m cap)).run P w' = .ok old w')
    (hgt : cap < m + n) (hm : m ≤ 1000000) (hn : n ≤ 1000000) :
    ∃ c, m + n ≤ c ∧ (Builtin.append_ #[t, u] ty #[.slice base m cap, x]).run P w = .ok (.slice (some ⟨w.heap.size, 0, none⟩) (m + n) c) (w.drew.alloc (.cells (old ++ new ++ Builtin.zeroCells v.cells (c - (m + n))) elem)) := by
  refine ⟨grownCap w (m + n) cap elem, grownCap_ge _ _ _ _, ?_⟩
  have hc : ¬ (m + n ≤ cap) := by omega
  have h48' : ¬ (281474976710656 < Builtin.nextslicecap (m + n) cap * i.bytes) := by
    have e1 := cap_bound hgt
    have e2 : Builtin.nextslicecap (m + n) cap * i.bytes ≤ 4001000 * 1000 := Nat.mul_le_mul (by omega) hT.hb
    omega
  have h63' : ¬ (9223372036854775807 < ((m : Int) + (n : Int))) := by omega
  have hnew' := hnew w.drew rfl
  have hold' := hold w.drew rfl
  have hsz := run_sizeOf hT.hs
  have hzero : ∀ w, (zeroValue elem).run P w = .ok v w := fun w => by simp [zeroValue, run_typeInfo hT.hi, hT.hz]
  obtain ⟨d, hd, hdi⟩ := hT.hu
  cases d <;> first
    | (simp [manyD] at hdi; done)
    | simp [Builtin.append_, run_underlying hT.ht, run_underlying hd, hsz, run_typeInfo hT.hi, hzero, hx, hc, h63', h48', Question.forced, hnew', hold', Go.newRow, grownCap]

/-- where there is room -/
theorem append_room (hT : AppT P t u elem size i v) {base : Option Addr} {m cap n : Nat} {x : Value} (hx : ∀ w, (Builtin.lenOf x).run P w = .ok n w) {new : Array Value}
    (hnew : (Builtin.firstCells size n x).run P w = .ok new w) (hle : m + n ≤ cap) {w' : World} (hst : ∀ q, base = some q → (storeCells (q.add (m * size)) new.toList).run P w = .ok () w') (hb : base = none → w' = w) :
    (Builtin.append_ #[t, u] ty #[.slice base m cap, x]).run P w = .ok (.slice base (m + n) cap) w' := by
  have hsz := run_sizeOf hT.hs
  obtain ⟨d, hd, hdi⟩ := hT.hu
  cases base with
  | none =>
    obtain rfl := hb rfl
    cases d <;> first
      | (simp [manyD] at hdi; done)
      | simp [Builtin.append_, run_underlying hT.ht, run_underlying hd, hsz, hx, hle, hnew]
  | some q =>
    have := hst q rfl
    cases d <;> first
      | (simp [manyD] at hdi; done)
      | simp [Builtin.append_, run_underlying hT.ht, run_underlying hd, hsz, hx, hle, hnew, this]

end

/-- one block of the run left for another one -/
theorem SR.move {H : Heap} {w w' : World} (hS : SR π B σ H w) (o : Obj) (L : Loc) (K : Heap) (hKn : K.next = H.next + 1) (gone : Nat → Prop)
    (hK : ∀ c u, K.know c = some u → (c = H.next ∧ u = o) ∨ (c ≠ H.next ∧ ¬ gone c ∧ H.know c = some u))
    (hB : B.n ≤ L.blk) (hsz : w.heap.size ≤ w'.heap.size) (hos : w'.os = w.os ∧ w'.tape = w.tape ∧ w'.output = w.output)
    (hL : ∀ c u L', ¬ gone c → H.know c = some u → σ c = some L' → L'.blk ≠ L.blk ∧ w'.heap[L'.blk]? = w.heap[L'.blk]?)
    (hfr : ∀ k, k < w.heap.size → k ≠ L.blk → w'.heap[k]? = w.heap[k]?)
    (him : L.blk < w.heap.size → ∃ b u L', H.know b = some u ∧ σ b = some L' ∧ L'.blk = L.blk)
    (hO : ∀ σ', Sg.le σ σ' → ObjR π σ' o L w') :
    ∃ σ', σ' H.next = some L ∧ SR π B σ' K w' ∧ Ext σ H.know w σ' K.know w' ∧ Nx σ H σ' K := by
  let σ' : Sg := fun b => if b = H.next then some L else σ b
  have hnext : σ' H.next = some L := by simp [σ']
  have hother : ∀ b, b ≠ H.next → σ' b = σ b := fun b hb => by simp [σ', hb]
  have hle : Sg.le σ σ' := fun b L' h => by
    have : b ≠ H.next := fun e => by rw [e, hS.dom _ (Nat.le_refl _)] at h; simp at h
    rw [hother b this]; exact h
  refine ⟨σ', hnext, ⟨⟨fun b u h => ?_, fun b b' u u' L1 L2 h1 h2 h3 h4 h5 => ?_, fun k hk => (hfr k (Nat.lt_of_lt_of_le hk hS.base) (by omega)).trans (hS.rel.low k hk)⟩, fun b hb => ?_, Nat.le_trans hS.base hsz⟩, ⟨hle, hos.1, hos.2.1, hos.2.2, hsz, fun k hk hn => ?_, fun b u L' h1 h2 h3 => ?_⟩, ⟨by omega, fun b hb => hother b (Nat.ne_of_lt hb), fun b u hb h => ?_⟩⟩
  · rcases hK b u h with ⟨rfl, rfl⟩ | ⟨h1, h2, h3⟩
    · exact ⟨L, hnext, hB, hO σ' hle⟩
    · obtain ⟨L', f1, f2, f3⟩ := hS.rel.obj b u h3
      exact ⟨L', by rw [hother b h1]; exact f1, f2, (f3.mono hle).same (hL b u L' h2 h3 f1).2⟩
  · rcases hK b u h1 with ⟨rfl, rfl⟩ | ⟨g1, g2, g3⟩ <;> rcases hK b' u' h2 with ⟨rfl, rfl⟩ | ⟨g4, g5, g6⟩
    · rfl
    · rw [hnext] at h3; rw [hother b' g4] at h4
      obtain rfl := Option.some.inj h3
      exact absurd h5.symm (hL b' u' L2 g5 g6 h4).1
    · rw [hnext] at h4; rw [hother b g1] at h3
      obtain rfl := Option.some.inj h4
      exact absurd h5 (hL b u L1 g2 g3 h3).1
    · rw [hother b g1] at h3; rw [hother b' g4] at h4
      exact hS.rel.inj b b' u u' L1 L2 g3 g6 h3 h4 h5
  · rw [hKn] at hb
    rw [hother b (by omega)]; exact hS.dom b (by omega)
  · by_cases e : k = L.blk
    · subst e
      obtain ⟨b, u, L', k1, k2, k3⟩ := him hk
      exact absurd k3 (hn b u L' k1 k2)
    · exact hfr k hk e
  · rcases hK b u h1 with ⟨rfl, rfl⟩ | ⟨g1, g2, g3⟩
    · rw [hnext] at h2; obtain rfl := Option.some.inj h2
      exact him h3
    · rw [hother b g1] at h2; exact ⟨b, u, L', g3, h2, rfl⟩
  · rcases hK b u h with ⟨rfl, rfl⟩ | ⟨g1, g2, g3⟩
    · exact absurd hb (Nat.lt_irrefl _)
    · exact ⟨u, g3⟩

end
end Go.Proofs.Ytlnjikneepgpaaa.Fast
