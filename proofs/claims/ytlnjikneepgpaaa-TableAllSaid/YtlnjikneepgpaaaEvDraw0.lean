/- For a region that draws its order: an operation hangs on its operands alone; what is made; the frame. -/
import Derived.Test.YtlnjikneepgpaaaEvRun
namespace Go.Proofs.Ytlnjikneepgpaaa.Fast
section
variable {π : Nat → Value} {B : Bd} {P : Program}

/-- two tables that say the same of some operands -/
def Agree (env env' : Env) (l : List Operand) : Prop := ∀ x ∈ l, (gop x).run env = (gop x).run env'

theorem gops_congr {env env' : Env} : ∀ {l : List Operand}, Agree env env' l → (gops l).run env = (gops l).run env'
  | [], _ => rfl
  | x :: t, h => by
    show obind ((gop x).run env) (fun v => obind ((gops t).run env) fun l => some (v :: l)) = obind ((gop x).run env') (fun v => obind ((gops t).run env') fun l => some (v :: l))
    rw [h x (by simp), gops_congr fun y hy => h y (by simp [hy])]

theorem parts_congr {env env' : Env} : ∀ {l : List (Nat × Operand)}, Agree env env' (l.map (·.2)) → (parts l).run env = (parts l).run env'
  | [], _ => rfl
  | x :: t, h => by
    show obind ((gop x.2).run env) (fun v => obind ((parts t).run env) fun l => some ((x.1, v) :: l)) = obind ((gop x.2).run env') (fun v => obind ((parts t).run env') fun l => some ((x.1, v) :: l))
    rw [h x.2 (by simp), parts_congr fun y hy => h y (by simp at hy ⊢; exact .inr hy)]

theorem gnat_congr {env env' : Env} {q : Option Operand} (h : Agree env env' q.toList) : (gnat q).run env = (gnat q).run env' := by
  cases q with
  | none => rfl
  | some x =>
    funext d
    show obind ((gop x).run env) natOf = obind ((gop x).run env') natOf
    rw [h x (by simp)]

theorem builtin_congr {env env' : Env} {H : Heap} {b : Builtin} {args : List Operand} {ts : List Nat} (h : Agree env env' args) : (aBuiltin P b args ts).run env H = (aBuiltin P b args ts).run env' H := by
  unfold aBuiltin
  split
  · split
    · rename_i x t _
      have hx := h x (by simp)
      unfold aLen
      split <;> (dsimp only [wno]; try rw [hx])
    · rfl
  · split
    · rename_i s x t u
      have hs := h s (by simp)
      have hx := h x (by simp)
      unfold aAppend
      split
      · dsimp only; rw [hs, hx]
      · rfl
    · rfl
  · split
    · rename_i d x t _
      have hs := h d (by simp)
      have hx := h x (by simp)
      unfold aCopy
      split
      · split
        · dsimp only; rw [hs, hx]
        · rfl
      · rfl
    · rfl
  · split
    · rename_i m k t _
      have hs := h m (by simp)
      have hx := h k (by simp)
      unfold aDelete
      split
      · dsimp only; rw [hs, hx]
      · rfl
    · rfl
  · split
    · rename_i x y
      have hs := h x (by simp)
      have hx := h y (by simp)
      dsimp only; rw [hs, hx]
    · rfl
  · split
    · rename_i x y
      have hs := h x (by simp)
      have hx := h y (by simp)
      dsimp only; rw [hs, hx]
    · rfl
  · split
    · rename_i x t _
      have hx := h x (by simp)
      unfold aCap
      split
      · dsimp only; rw [hx]
      · rfl
    · rfl
  · split
    · rename_i x
      have hx := h x (by simp)
      dsimp only; rw [hx]
    · rfl
  · split
    · rename_i x t _
      have hx := h x (by simp)
      unfold aClear
      split
      · split
        · dsimp only; rw [hx]
        · rfl
      · rfl
    · rfl
  · split
    · rename_i p n t u
      have hp := h p (by simp)
      have hn := h n (by simp)
      unfold aUnStr
      split
      · dsimp only; rw [hp, hn]
      · rfl
    · rfl
  · rfl

theorem aop_congr {env env' : Env} {H : Heap} {o : Oper} (h : Agree env env' o.op.operands.toList) : (aop P o).run env H = (aop P o).run env' H := by
  unfold aop
  cases ho : o.op with
  | move x | assign x => rw [ho] at h; dsimp only; rw [h x (by simp [Op.operands])]
  | pick c x y => rw [ho] at h; dsimp only; rw [h c (by simp [Op.operands]), h x (by simp [Op.operands]), h y (by simp [Op.operands])]
  | alloc e => dsimp only; unfold aAlloc; split <;> rfl
  | box e x => rw [ho] at h; dsimp only; rw [h x (by simp [Op.operands])]
  | build t ps =>
    rw [ho] at h; dsimp only; unfold aBuild
    split
    · dsimp only; rw [parts_congr (l := ps.toList) (by simpa [Op.operands] using h)]
    · rfl
  | buildSlice t n ps =>
    rw [ho] at h; dsimp only; unfold aBuildSlice
    split
    · split
      · split
        · dsimp only; rw [parts_congr (l := ps.toList) (by simpa [Op.operands] using h)]
        · rfl
      · split <;> rfl
      · rfl
    · rfl
  | load t x => rw [ho] at h; dsimp only; unfold aLoad; dsimp only; rw [h x (by simp [Op.operands])]
  | store t x y => rw [ho] at h; dsimp only; unfold aStore; dsimp only; rw [h x (by simp [Op.operands]), h y (by simp [Op.operands])]
  | nilCheck x => rw [ho] at h; dsimp only; rw [h x (by simp [Op.operands])]
  | binOp op t x y u => rw [ho] at h; dsimp only; rw [h x (by simp [Op.operands]), h y (by simp [Op.operands])]
  | unOp op t x => rw [ho] at h; dsimp only; unfold aUn; split <;> (dsimp only [wno]; try rw [h x (by simp [Op.operands])])
  | convert s d x =>
    rw [ho] at h; dsimp only
    have hx := h x (by simp [Op.operands])
    unfold aConvert
    split
    · dsimp only; rw [hx]
    · dsimp only; rw [hx]
    · split
      · dsimp only; rw [hx]
      · rfl
    · split
      · dsimp only; rw [hx]
      · rfl
    · split
      · dsimp only; rw [hx]
      · rfl
    · rfl
  | makeInterface t x => rw [ho] at h; dsimp only; unfold aMakeI; split <;> (dsimp only [wno]; try rw [h x (by simp [Op.operands])])
  | makeFunc fn f c =>
    rw [ho] at h; dsimp only
    rw [gops_congr (l := f.toList) fun x hx => h x (by simp [Op.operands]; exact .inl (by simpa using hx)), gops_congr (l := c.toList) fun x hx => h x (by simp [Op.operands]; exact .inr (by simpa using hx))]
  | makeMap t r => cases r <;> rfl
  | makeSlice t l c =>
    rw [ho] at h; dsimp only; unfold aMakeSlice
    split
    · split
      · split
        · dsimp only; rw [h l (by simp [Op.operands]), h c (by simp [Op.operands])]
        · rfl
      · rfl
    · rfl
  | slice t x lo hi mx =>
    rw [ho] at h; dsimp only
    have hx := h x (by simp [Op.operands])
    have h1 := gnat_congr (q := lo) fun y hy => h y (by simp [Op.operands]; simp at hy; simp [hy])
    have h2 := gnat_congr (q := hi) fun y hy => h y (by simp [Op.operands]; simp at hy; simp [hy])
    have h3 := gnat_congr (q := mx) fun y hy => h y (by simp [Op.operands]; simp at hy; simp [hy])
    unfold aSlice
    split
    · split
      · dsimp only; rw [hx, h1, h2]
      · rfl
    · split
      · split
        · dsimp only; rw [hx, h1, h2]
        · split
          · dsimp only; rw [hx, h1, h2, h3]
          · rfl
      · rfl
    · rfl
  | fieldAddr s x f =>
    rw [ho] at h; dsimp only; unfold aFieldAddr
    split
    · split
      · dsimp only; rw [h x (by simp [Op.operands])]
      · rfl
    · rfl
  | field s x f =>
    rw [ho] at h; dsimp only; unfold aField
    split
    · dsimp only; rw [h x (by simp [Op.operands])]
    · rfl
  | indexAddr t x ix =>
    rw [ho] at h; dsimp only; unfold aIndexAddr
    split
    · split
      · dsimp only; rw [h x (by simp [Op.operands]), h ix (by simp [Op.operands])]
      · rfl
    · split
      · dsimp only; rw [h x (by simp [Op.operands]), h ix (by simp [Op.operands])]
      · rfl
    · rfl
  | index t x ix =>
    rw [ho] at h; dsimp only; unfold aIndex
    split
    · dsimp only; rw [h x (by simp [Op.operands]), h ix (by simp [Op.operands])]
    · split
      · dsimp only; rw [h x (by simp [Op.operands]), h ix (by simp [Op.operands])]
      · rfl
    · rfl
  | lookup t m k ok =>
    rw [ho] at h; dsimp only; unfold aLookup
    split
    · dsimp only; rw [h m (by simp [Op.operands]), h k (by simp [Op.operands])]
    · rfl
  | mapUpdate t m k v | insert t m k v =>
    rw [ho] at h; dsimp only; unfold aUpdate
    split
    · dsimp only; rw [h m (by simp [Op.operands]), h k (by simp [Op.operands]), h v (by simp [Op.operands])]
    · rfl
  | extract x i => rw [ho] at h; dsimp only; rw [h x (by simp [Op.operands])]
  | range t x => rw [ho] at h; dsimp only; unfold aRange; split <;> (dsimp only [wno]; try rw [h x (by simp [Op.operands])])
  | next x s => rw [ho] at h; dsimp only; unfold aNext; split <;> (dsimp only [wno]; try rw [h x (by simp [Op.operands])])
  | panic x => rw [ho] at h; dsimp only; rw [h x (by simp [Op.operands])]
  | typeAssert x u t ok => rw [ho] at h; dsimp only; unfold aAssert; split <;> (dsimp only [wno]; try rw [h x (by simp [Op.operands])])
  | call c =>
    rw [ho] at h; dsimp only
    obtain ⟨callee, args, ts⟩ := c
    unfold aCall
    cases callee with
    | value f =>
      dsimp only
      rw [h f (by simp [Op.operands, Call.operands]), gops_congr (l := args.toList) fun x hx => h x (by simp [Op.operands, Call.operands]; exact .inr (by simpa using hx))]
    | builtin b => exact builtin_congr fun x hx => h x (by simp [Op.operands, Call.operands]; simpa using hx)
    | invoke r m => rfl
  | _ => rfl

theorem freC_congr {env env' : Env} {o : Oper} (h : Agree env env' o.op.operands.toList) : (freC P o).run env = (freC P o).run env' := by
  unfold freC
  cases ho : o.op with
  | box e x => rw [ho] at h; dsimp only; rw [h x (by simp [Op.operands])]
  | buildSlice t n ps =>
    rw [ho] at h; dsimp only; unfold freSlice
    split
    · split
      · split
        · dsimp only; rw [parts_congr (l := ps.toList) (by simpa [Op.operands] using h)]
        · rfl
      · split <;> rfl
      · rfl
    · rfl
  | makeMap t r => cases r <;> rfl
  | _ => rfl

/-- what is made -/
structure FreOk (π : Nat → Value) (P : Program) (σ : Sg) (o : Oper) (a : Act) (w : World) (f : Fre) : Prop where
  ex : ∃ x C csz, (execOp a.eval o).run P w = .ok (.value x) (w.alloc C) ∧ ∀ σ' b, Sg.le σ σ' → σ' b = some ⟨w.heap.size, 0, csz⟩ → VR π σ' (f.val b) x ∧ ∀ w' : World, w'.heap[w.heap.size]? = some C → ObjR π σ' f.obj ⟨w.heap.size, 0, csz⟩ w'

theorem row_objR {σ σ' : Sg} {l : List AV} {xs : Array Value} {e : Nat} {n : Nat} {w' : World} (hx : VRL π σ l xs.toList) (hs : Sg.le σ σ') (hw : w'.heap[n]? = some (.cells xs e (0, 0))) : ObjR π σ' (.row l (typ 3 e) 0 0) ⟨n, 0, xs.size⟩ w' := by
  refine ⟨xs, e, (0, 0), hw, rfl, ⟨?_, fun i v hv => ?_⟩, FrzR.no _ _ _ _, typ3 _ _ _ _ (by rw [← hx.length, Array.length_toList])⟩
  · have := hx.length; rw [Array.length_toList] at this; show 0 + _ ≤ _; omega
  · obtain ⟨x, h1, h2⟩ := hx.get i v hv
    exact ⟨x, by simpa using h1, h2.mono hs⟩

theorem freC_ok (hπ : ∀ i, (π i).oneCell' = true) {σ : Sg} {env : Env} {o : Oper} {a : Act} {w : World} {f : Fre} (he : EnvR π σ env a) (h : (freC P o).run env = some f) : FreOk π P σ o a w f := by
  unfold freC at h
  split at h
  · rename_i e ho
    obtain ⟨z, h1, h2⟩ := obind_some (show obind (zeroT P e) (fun z => some (Fre.mk (fun b => .ptr b 0) (.row z.cells (typ 3 e) 0 0))) = some f from h)
    obtain rfl := Option.some.inj h2
    obtain ⟨v, g1, g2⟩ := run_zero h1
    exact ⟨_, .cells v.cells e, v.cells.size, by simp [execOp, ho, Instr.alloc, g1, run_newVar], fun σ' b hs hb => ⟨.ptr _ _ _ hb, fun w' hw => row_objR (VR.cells hπ (g2 π σ)) hs hw⟩⟩
  · rename_i e x ho
    obtain ⟨v, h1, h2⟩ := obind_some (show obind ((gop x).run env) (fun v => some (Fre.mk (fun b => .ptr b 0) (.row v.cells (typ 3 e) 0 0))) = some f from h)
    obtain rfl := Option.some.inj h2
    have hv := gop_VR he h1
    exact ⟨_, .cells (a.eval x).cells e, (a.eval x).cells.size, by simp [execOp, ho, Instr.box, run_newVar], fun σ' b hs hb => ⟨.ptr _ _ _ hb, fun w' hw => row_objR (VR.cells hπ hv) hs hw⟩⟩
  · rename_i t n ps ho
    unfold freSlice at h
    split at h
    · rename_i elem hel
      split at h
      · rename_i size z hs hz hn
        split at h
        · rename_i hc1 hc2 hc3
          obtain ⟨l, hl, h2⟩ := obind_some (show obind ((parts ps.toList).run env) (fun l => obind (fillA (fun i => some (Nat.mul i size, size)) l (rep z.cells n)) fun cs => some (Fre.mk (fun b => .slice b 0 n n 0) (.row cs (typ 3 elem) 0 0))) = some f from h)
          obtain ⟨cs, hcs, h3⟩ := obind_some h2
          obtain rfl := Option.some.inj h3
          obtain ⟨v, h1, h2⟩ := run_zero hz
          have hzc := VR.cells hπ (h2 π σ)
          have hzl : z.cells.length = size := by rw [← len_eq]; exact Nat.eq_of_beq_eq_true hc1
          have hvl : v.cells.size = size := by rw [← hzl, ← hzc.length, Array.length_toList]
          have hle := Nat.le_of_ble_eq_true hc3
          have hpos := blt_lt hc2
          have hnpos := blt_lt hn
          have h0 : VRL π σ (rep z.cells n) (((Array.range (n * size)).map (v.cells[· % v.cells.size]!)).toList) := by
            refine VRL.of _ _ (by simp [rep_length, hzl]) fun i u hu => ?_
            have hi : i < n * z.cells.length := by
              rcases Nat.lt_or_ge i (n * z.cells.length) with h' | h'
              · exact h'
              · rw [List.getElem?_eq_none (by rw [rep_length]; exact h')] at hu; simp at hu
            rw [rep_get _ _ _ hi] at hu
            obtain ⟨x, e1, e2⟩ := hzc.get _ _ hu
            refine ⟨x, ?_, e2⟩
            rw [hzl] at hi e1
            have e1' : v.cells[i % size]? = some x := by simpa using e1
            simp [hi, hvl, Array.getElem!_eq_getD, Array.getD_eq_getD_getElem?, e1']
          obtain ⟨C', e1, e2⟩ := fill_ok hπ _ l _ _ cs _ (parts_ok he hl) h0 hcs
          have e3 : Instr.fill (fun i => some (i * size, size)) ((Array.range (n * size)).map (v.cells[· % v.cells.size]!)) (ps.toList.map fun p => (p.1, a.eval p.2)) = some C' := e1
          refine ⟨.slice (some ⟨w.heap.size, 0, none⟩) n n, .cells C' elem, C'.size, ?_, fun σ' b hs hb => ⟨?_, fun w' hw => row_objR e2 hs hw⟩⟩
          · have hle' : n * size ≤ 1000000 := hle
            have hz0 : ¬ (n * size > 16777216) := by omega
            have hz1 : n * size ≠ 0 := Nat.ne_of_gt (Nat.mul_pos hnpos hpos)
            simp only [execOp, ho, Instr.buildSlice, Sem.run_bind, run_underlying (elemS_some hel), Result.andThen_ok, run_sizeOf hs]
            rw [if_neg hz0]
            simp [hz1, h1, Go.newRow, e3]
          · exact VR.slice (π := π) (σ := σ') b 0 n n _ hb
        · exact absurd (show none = some f from h) (by simp)
      · rename_i size z hs hz hn
        split at h
        · rename_i hps
          obtain rfl := Option.some.inj (show some (Fre.mk (fun b => .slice b 0 0 0 0) (.row [] (typ 3 elem) 0 0)) = some f from h)
          have hn0 : n = 0 := by
            rcases Nat.eq_zero_or_pos n with h | h
            · exact h
            · rw [show Nat.blt 0 n = true from Nat.ble_eq_true_of_le h] at hn; simp at hn
          subst hn0
          refine ⟨.slice (some ⟨w.heap.size, 0, none⟩) 0 0, .cells #[] elem, 0, ?_, fun σ' b hs hb => ⟨VR.slice (π := π) (σ := σ') b 0 0 0 _ hb, fun w' hw => row_objR (xs := #[]) .nil hs hw⟩⟩
          simp only [execOp, ho, Instr.buildSlice, Sem.run_bind, run_underlying (elemS_some hel), Result.andThen_ok, run_sizeOf hs]
          have hps' : ps = #[] := by obtain ⟨ps⟩ := ps; simpa using hps
          subst hps'
          simp [Go.newRow, Instr.fill, show Array.range 0 = #[] from rfl]
        · exact absurd (show none = some f from h) (by simp)
      · exact absurd (show none = some f from h) (by simp)
    · exact absurd (show none = some f from h) (by simp)
  · rename_i t ho
    obtain rfl := Option.some.inj (show some (Fre.mk (fun b => .map b) (.map [] 0)) = some f from h)
    exact ⟨.map (some w.heap.size), .map #[] 0, 0, by simp [execOp, ho, Instr.makeMap], fun σ' b hs hb => ⟨.map _ _ hb, fun w' hw => ⟨#[], hw, rfl, fun i e m h => by simp at h⟩⟩⟩
  · exact absurd (show none = some f from h) (by simp)

/-- what only reads changes nothing -/
theorem read_same {o : Oper} {env : Env} {H H1 : Heap} {v : AV} (hk : kindO P o = 1) (h : (aop P o).run env H = .val v H1) : H1 = H := by
  have vo_same : ∀ {x : Option AV}, vo H x = .val v H1 → H1 = H := fun {x} h => by
    cases x with
    | none => simp [vo] at h
    | some u => exact (OR.val.inj (show OR.val u H = .val v H1 from h)).2.symm
  have ob_some : ∀ {α : Type} {x : Option α} {f : α → OR}, ob x f = .val v H1 → ∃ y, f y = .val v H1 := fun {α x f} h => by
    cases x with
    | none => simp [ob] at h
    | some u => exact ⟨u, h⟩
  have oi_some : ∀ {b : Bool} {x : OR}, oi b x = .val v H1 → x = .val v H1 := fun {b x} h => by
    cases b with
    | false => simp [oi] at h
    | true => exact h
  unfold kindO at hk
  unfold aop at h
  cases ho : o.op <;> rw [ho] at hk h <;> first | (simp at hk; done) | skip
  · obtain ⟨y, h⟩ := ob_some h
    obtain ⟨y, h⟩ := ob_some h
    exact vo_same h
  · dsimp only at h
    unfold aLookup at h
    split at h
    · obtain ⟨y, h⟩ := ob_some h
      obtain ⟨y, h⟩ := ob_some h
      have h := oi_some h
      obtain ⟨y, h⟩ := ob_some h
      exact (OR.val.inj h).2.symm
    · simp [wno] at h
  · rename_i c
    obtain ⟨callee, args, ts⟩ := c
    dsimp only at h
    unfold kindC at hk
    unfold aCall at h
    cases callee with
    | builtin b =>
      dsimp only at hk h
      unfold kindB at hk
      unfold aBuiltin at h
      cases b <;> dsimp only at hk h <;> first | (simp at hk; done) | skip
      split at h
      · unfold aLen at h
        split at h
        · obtain ⟨y, h⟩ := ob_some h; obtain ⟨y, h⟩ := ob_some h; exact (OR.val.inj h).2.symm
        · obtain ⟨y, h⟩ := ob_some h; obtain ⟨y, h⟩ := ob_some h; exact (OR.val.inj h).2.symm
        · obtain ⟨y, h⟩ := ob_some h; obtain ⟨y, h⟩ := ob_some h; exact (OR.val.inj h).2.symm
        · exact (OR.val.inj h).2.symm
        · simp [wno] at h
      · simp [wno] at h
    | value f => simp at hk
    | invoke r m => simp at hk

/- the frame -/
def ovl (X K : Know) : Know := fun b => match X b with | some o => some o | none => K b

theorem ovl_x {X K : Know} {b : Nat} {o : Obj} (h : X b = some o) : ovl X K b = some o := by simp [ovl, h]
theorem ovl_k {X K : Know} {b : Nat} (h : X b = none) : ovl X K b = K b := by simp [ovl, h]
theorem ovl_inv {X K : Know} {b : Nat} {o : Obj} (h : ovl X K b = some o) : X b = some o ∨ (X b = none ∧ K b = some o) := by
  unfold ovl at h
  cases hx : X b with
  | some u => rw [hx] at h; exact .inl h
  | none => rw [hx] at h; exact .inr ⟨rfl, h⟩

theorem Rel.less {K K' : Know} {σ : Sg} {w : World} (h : Rel π B σ K w) (hs : ∀ b o, K' b = some o → K b = some o) : Rel π B σ K' w :=
  ⟨fun b o hb => h.obj b o (hs b o hb), fun b b' o o' L L' h1 h2 => h.inj b b' o o' L L' (hs b o h1) (hs b' o' h2), h.low⟩

theorem Ext.less {σ0 : Sg} {K0 : Know} {w0 : World} {K K' : Know} {σ : Sg} {w : World} (h : Ext σ0 K0 w0 σ K w) (hs : ∀ b o, K' b = some o → K b = some o) : Ext σ0 K0 w0 σ K' w :=
  ⟨h.sg, h.os, h.tape, h.output, h.size, h.frame, fun b' o' L' h1 => h.img b' o' L' (hs b' o' h1)⟩

/-- what is known besides stays -/
theorem Rel.lift {X K K' : Know} {σ σ' : Sg} {w w' : World} (hR : Rel π B σ (ovl X K) w) (hX : ∀ b o, X b = some o → K b = none) (hE : Ext σ K w σ' K' w') (hR' : Rel π B σ' K' w') :
    Rel π B σ' (ovl X K') w' ∧ Ext σ (ovl X K) w σ' (ovl X K') w' := by
  have hKX : ∀ b o, K b = some o → X b = none := fun b o h => by
    cases hx : X b with
    | none => rfl
    | some u => rw [hX b u hx] at h; simp at h
  have ofK : ∀ b o, K b = some o → ovl X K b = some o := fun b o h => by rw [ovl_k (hKX b o h)]; exact h
  have xs : ∀ b o, X b = some o → ∃ L, σ b = some L ∧ B.n ≤ L.blk ∧ ObjR π σ o L w ∧ σ' b = some L ∧ w'.heap[L.blk]? = w.heap[L.blk]? := fun b o h => by
    obtain ⟨L, h1, h2, h3⟩ := hR.obj b o (ovl_x h)
    refine ⟨L, h1, h2, h3, hE.sg b L h1, hE.frame _ h3.lt fun b' o' L' e1 e2 e3 => ?_⟩
    have := hR.inj b' b o' o L' L (ofK b' o' e1) (ovl_x h) e2 h1 e3
    subst this
    rw [hX b' o h] at e1; simp at e1
  refine ⟨⟨fun b o h => ?_, fun b b' o o' L L' h1 h2 h3 h4 h5 => ?_, hR'.low⟩, ⟨hE.sg, hE.os, hE.tape, hE.output, hE.size, fun k hk hn => hE.frame k hk fun b o L e1 e2 => hn b o L (ofK b o e1) e2, fun b' o' L' h1 h2 h3 => ?_⟩⟩
  · rcases ovl_inv h with h | ⟨_, h⟩
    · obtain ⟨L, _, h2, h3, h4, h5⟩ := xs b o h
      exact ⟨L, h4, h2, (h3.mono hE.sg).same h5⟩
    · exact hR'.obj b o h
  · have xk : ∀ b o L b' o' L', X b = some o → K' b' = some o' → σ' b = some L → σ' b' = some L' → L.blk = L'.blk → False := fun b o L b' o' L' h1 h2 h3 h4 h5 => by
      obtain ⟨L1, g1, _, g3, g4, _⟩ := xs b o h1
      rw [h3] at g4; obtain rfl := Option.some.inj g4
      obtain ⟨b0, o0, L0, f1, f2, f3⟩ := hE.img b' o' L' h2 h4 (h5 ▸ g3.lt)
      have := hR.inj b0 b o0 o L0 L (ofK b0 o0 f1) (ovl_x h1) f2 g1 (f3.trans h5.symm)
      subst this
      rw [hX b0 o h1] at f1; simp at f1
    rcases ovl_inv h1 with h1 | ⟨_, h1⟩ <;> rcases ovl_inv h2 with h2 | ⟨_, h2⟩
    · obtain ⟨L1, g1, _, _, g4, _⟩ := xs b o h1
      obtain ⟨L2, f1, _, _, f4, _⟩ := xs b' o' h2
      rw [h3] at g4; obtain rfl := Option.some.inj g4
      rw [h4] at f4; obtain rfl := Option.some.inj f4
      exact hR.inj b b' o o' L L' (ovl_x h1) (ovl_x h2) g1 f1 h5
    · exact (xk b o L b' o' L' h1 h2 h3 h4 h5).elim
    · exact (xk b' o' L' b o L h2 h1 h4 h3 h5.symm).elim
    · exact hR'.inj b b' o o' L L' h1 h2 h3 h4 h5
  · rcases ovl_inv h1 with h1 | ⟨_, h1⟩
    · obtain ⟨L1, g1, _, _, g4, _⟩ := xs b' o' h1
      rw [h2] at g4; obtain rfl := Option.some.inj g4
      exact ⟨b', o', L', ovl_x h1, g1, rfl⟩
    · obtain ⟨b0, o0, L0, f1, f2, f3⟩ := hE.img b' o' L' h1 h2 h3
      exact ⟨b0, o0, L0, ofK b0 o0 f1, f2, f3⟩

/-- a new block known besides -/
theorem Rel.more {X K : Know} {σ : Sg} {w w' : World} (hR : Rel π B σ (ovl X K) w) (hB : B.n ≤ w.heap.size) (id : Nat) (o : Obj) (L : Loc) (hid : σ id = none) (hL : L.blk = w.heap.size)
    (hh : ∀ k, k < w.heap.size → w'.heap[k]? = w.heap[k]?) (hsz : w.heap.size ≤ w'.heap.size) (hos : w'.os = w.os ∧ w'.tape = w.tape ∧ w'.output = w.output)
    (hO : ∀ σ', Sg.le σ σ' → σ' id = some L → ObjR π σ' o L w') :
    ∃ σ', σ' id = some L ∧ (∀ b, b ≠ id → σ' b = σ b) ∧ Sg.le σ σ' ∧ Rel π B σ' (ovl (fun b => if b = id then some o else X b) K) w' ∧ Ext σ (ovl X K) w σ' (ovl (fun b => if b = id then some o else X b) K) w' := by
  let σ' : Sg := fun b => if b = id then some L else σ b
  have hnew : σ' id = some L := by simp [σ']
  have hother : ∀ b, b ≠ id → σ' b = σ b := fun b hb => by simp [σ', hb]
  have hle : Sg.le σ σ' := fun b L' h => by
    have : b ≠ id := fun e => by rw [e, hid] at h; simp at h
    rw [hother b this]; exact h
  have hk : ∀ b u, ovl (fun b => if b = id then some o else X b) K b = some u → (b = id ∧ u = o) ∨ (b ≠ id ∧ ovl X K b = some u) := fun b u h => by
    by_cases e : b = id
    · subst e
      rw [ovl_x (o := o) (by simp)] at h
      exact .inl ⟨rfl, (Option.some.inj h).symm⟩
    · refine .inr ⟨e, ?_⟩
      unfold ovl at h ⊢
      simp only [if_neg e] at h
      exact h
  refine ⟨σ', hnew, hother, hle, ⟨fun b u h => ?_, fun b b' u u' L1 L2 h1 h2 h3 h4 h5 => ?_, fun k hk => (hh k (Nat.lt_of_lt_of_le hk hB)).trans (hR.low k hk)⟩, ⟨hle, hos.1, hos.2.1, hos.2.2, hsz, fun k hk _ => hh k hk, fun b u L' h1 h2 h3 => ?_⟩⟩
  · rcases hk b u h with ⟨rfl, rfl⟩ | ⟨h1, h2⟩
    · exact ⟨L, hnew, by omega, hO σ' hle hnew⟩
    · obtain ⟨L', f1, f2, f3⟩ := hR.obj b u h2
      exact ⟨L', by rw [hother b h1]; exact f1, f2, (f3.mono hle).same (hh _ f3.lt)⟩
  · rcases hk b u h1 with ⟨rfl, rfl⟩ | ⟨g1, g2⟩ <;> rcases hk b' u' h2 with ⟨rfl, rfl⟩ | ⟨g3, g4⟩
    · rfl
    · obtain ⟨L', f1, f2, f3⟩ := hR.obj b' u' g4
      have := f3.lt
      rw [hnew] at h3; rw [hother b' g3, f1] at h4
      obtain rfl := Option.some.inj h3; obtain rfl := Option.some.inj h4
      omega
    · obtain ⟨L', f1, f2, f3⟩ := hR.obj b u g2
      have := f3.lt
      rw [hnew] at h4; rw [hother b g1, f1] at h3
      obtain rfl := Option.some.inj h3; obtain rfl := Option.some.inj h4
      omega
    · rw [hother b g1] at h3; rw [hother b' g3] at h4
      exact hR.inj b b' u u' L1 L2 g2 g4 h3 h4 h5
  · rcases hk b u h1 with ⟨rfl, rfl⟩ | ⟨g1, g2⟩
    · rw [hnew] at h2; obtain rfl := Option.some.inj h2; omega
    · rw [hother b g1] at h2; exact ⟨b, u, L', g2, h2, rfl⟩

theorem aeqS_eq : ∀ {a b : AV}, aeqS a b = true → a = b := by
  intro a b h
  cases a <;> cases b <;> first | (simp [aeqS] at h; done) | rfl | skip
  · rename_i k n k' n'
    obtain ⟨h1, h2⟩ := band_true h
    have e : n = n' := by simpa [ieq_eq] using h2
    rw [kEq_true h1, e]
  · rename_i c c'
    have e : c = c' := by simpa [beqB_eq] using (show beqB c c' = true from h)
    rw [e]
  · obtain ⟨h1, h2⟩ := band_true h; rw [Nat.eq_of_beq_eq_true h1, Nat.eq_of_beq_eq_true h2]
  · obtain ⟨h1, h2⟩ := band_true h; rw [Nat.eq_of_beq_eq_true h1, Nat.eq_of_beq_eq_true h2]
  · obtain ⟨h1, h2⟩ := band_true h
    obtain ⟨h3, h4⟩ := band_true h2
    obtain ⟨h5, h6⟩ := band_true h4
    obtain ⟨h7, h8⟩ := band_true h6
    rw [Nat.eq_of_beq_eq_true h1, Nat.eq_of_beq_eq_true h3, Nat.eq_of_beq_eq_true h5, Nat.eq_of_beq_eq_true h7, Nat.eq_of_beq_eq_true h8]
  · rw [Nat.eq_of_beq_eq_true h]
  · rw [Nat.eq_of_beq_eq_true h]

theorem aeqL_eq : ∀ {l m : List AV}, aeqL l m = true → l = m
  | [], [], _ => rfl
  | [], _ :: _, h => by simp [aeqL] at h
  | _ :: _, [], h => by simp [aeqL] at h
  | a :: l, b :: m, h => by
    obtain ⟨h1, h2⟩ := band_true (show band (aeqS a b) (aeqL l m) = true from h)
    rw [aeqS_eq h1, aeqL_eq h2]

theorem aeq_eq {a b : AV} (h : aeq a b = true) : a = b := by
  unfold aeq at h
  split at h
  · split at h
    · rw [aeqL_eq h]
    · simp at h
  · split at h
    · rw [aeqL_eq h]
    · simp at h
  · split at h
    · obtain ⟨h1, h2⟩ := band_true h
      rw [Nat.eq_of_beq_eq_true h1, aeqL_eq h2]
    · simp at h
  · exact aeqS_eq h

theorem sameIn_get {g : Env → Heap → OR} {env : Env} {v : AV} : ∀ {n : Nat} {l : List Heap}, sameIn g env v n l = true → ∀ d H, d < n → l[d]? = some H → ∃ H1, g env H.big = .val v H1 ∧ H1.next = BIG
  | 0, _, _, d, H, hd, _ => by omega
  | n + 1, [], h, _, _, _, _ => by simp [sameIn] at h
  | n + 1, Hh :: t, h, d, H, hd, hl => by
    have h : (OR.rec (fun u H' => band (Nat.beq H'.next BIG) (band (aeq u v) (sameIn g env v n t))) (fun _ _ => false) (fun _ _ => false) false (g env Hh.big) : Bool) = true := h
    cases hg : g env Hh.big with
    | val u H' =>
      rw [hg] at h
      obtain ⟨h1, h2⟩ := band_true h
      obtain ⟨h3, h4⟩ := band_true h2
      cases d with
      | zero =>
        obtain rfl : Hh = H := by simpa using hl
        exact ⟨H', by rw [hg, aeq_eq h3], Nat.eq_of_beq_eq_true h1⟩
      | succ d => exact sameIn_get h4 d H (by omega) (by simpa using hl)
    | call f a => rw [hg] at h; simp at h
    | pan v H => rw [hg] at h; simp at h
    | no => rw [hg] at h; simp at h

end
end Go.Proofs.Ytlnjikneepgpaaa.Fast
