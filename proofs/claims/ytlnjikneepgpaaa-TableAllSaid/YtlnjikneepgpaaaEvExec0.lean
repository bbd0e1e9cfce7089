/- The second run of a whole call does what the model's does: what the model takes by name, calls without anything put off. -/
import Derived.Test.YtlnjikneepgpaaaEvDraw
import Derived.Lib.Bytealg
import Derived.Lib.MakeNoZero
import Derived.Laws.Externs
namespace Go.Proofs.Ytlnjikneepgpaaa.Fast
open Go.RowKit (Below)
section
variable {π : Nat → Value} {B : Bd} {P : Program}

theorem Done.mono {b b' : Base} {N : Nat} {x : Ex} {env : Env} {H : Heap} (hd : b'.d = b.d) (h1 : Ext b.σ b.h.know b.w b'.σ b'.h.know b'.w) (h2 : Nx b.σ b.h b'.σ b'.h) {e : Exit} {a : Act} {w : World}
    (h : Done π B b' N x env H e a w) : Done π B b N x env H e a w :=
  let ⟨σ, hx, hA⟩ := h
  ⟨σ, hx, hA.env, hA.sr, h1.trans hA.ext, h2.trans hA.nx, hA.tm, hA.df.trans hd⟩

/-- from here on -/
theorem At.here {b : Base} {N : Nat} {σ : Sg} {env : Env} {H : Heap} {a : Act} {w : World} (h : At π B b N σ env H a w) : At π B ⟨σ, w, H, b.d⟩ N σ env H a w :=
  ⟨h.env, h.sr, Ext.refl _ _ _, Nx.refl _ _, h.tm, h.df⟩

def KnownOk (π : Nat → Value) (B : Bd) (P : Program) (K : Known) : Prop :=
  ∀ f g, K f = some g → ∀ args H, (g args H).fine → ∀ σ w (xs : Array Value), SR π B σ H w → VRL π σ args xs.toList → Calls P f xs w (CallR π B ⟨σ, w, H, []⟩ (g args H))

/-- no function with a body bears the one name that the model takes by itself -/
def NamesOk (P : Program) : Prop := ∀ (f : Nat) fn, P.funcs[f]? = some fn → fn.body.isSome = true → (fn.name == "runtime.NumGoroutine") = false

theorem enter_run (hn : NamesOk P) {f : FuncId} {fn : Func} {c : Code} (hf : P.funcs[f]? = some fn) (hb : fn.body = some c) (xs : Array Value) (w : World) : (callFunc f xs).run P w = .ok (.enter f xs) w := by
  have h0 := hn f fn hf (by rw [hb]; rfl)
  have : fn.name ≠ "runtime.NumGoroutine" := by simpa using h0
  simp [callFunc, hf, this, hb]

def ExecOk (π : Nat → Value) (B : Bd) (P : Program) (n : Nat) (ih : Ih) : Prop :=
  ∀ c env H x env' H', ih c env H = .ok x env' H' → ∀ b N σ a w, codeOk N c = true → At π B b N σ env H a w →
    c.wp P (Done π B b N x env' H') a w ∧ ∀ c', c = .loop c' → Code.rounds P c' (Done π B b N x env' H') n a w

theorem bind_ok : ∀ (l : List AV) (i : Nat) (env : Env) (σ : Sg) (a : Act) (xs : List Value), VRL π σ l xs → (∀ j, j < xs.length → a.tmps[i + j]? = xs[j]?) → EnvR π σ env a → EnvR π σ (bindArgs l i env) a
  | [], _, _, _, _, _, _, _, h => h
  | v :: l, i, env, σ, a, xs, hl, hx, h => by
    cases hl with
    | cons _ x _ xs' h1 h2 =>
      refine bind_ok l (i + 1) ((setc 3 i).run env v) σ a xs' h2 (fun j hj => ?_) (fun t u hu => ?_)
      · have := hx (j + 1) (by simp; omega)
        rw [show i + 1 + j = i + (j + 1) by omega, this]; simp
      · rcases get_set 3 i t env v u hu with ⟨rfl, rfl⟩ | ⟨e1, e2⟩
        · exact ⟨x, by simpa using hx 0 (by simp), h1⟩
        · exact h t u e2

def resF (tmps : Array Value) : ResultVar → Sem Value
  | .tmp t => pure (tmps.getD t undef)
  | .cell a t => do loadVar t (← asAddr (tmps.getD a undef))

theorem res_ok {σ : Sg} {env : Env} {H : Heap} {a : Act} {w : World} (he : EnvR π σ env a) (hS : SR π B σ H w) : ∀ (l : List ResultVar) (m : List AV), (resC P l).run env H = some m →
    ∃ xs : List Value, (l.mapM (resF a.tmps)).run P w = .ok xs w ∧ VRL π σ m xs
  | [], m, h => by obtain rfl := Option.some.inj (show some [] = some m from h); exact ⟨[], by simp, .nil⟩
  | .tmp t :: l, m, h => by
    obtain ⟨v, h1, h2⟩ := obind_some (show obind (env.get t) (fun v => obind ((resC P l).run env H) fun l => some (v :: l)) = some m from h)
    obtain ⟨l', h3, h4⟩ := obind_some h2
    obtain rfl := Option.some.inj h4
    obtain ⟨xs, e1, e2⟩ := res_ok he hS l l' h3
    obtain ⟨x, f1, f2⟩ := he t v h1
    refine ⟨x :: xs, ?_, .cons _ _ _ _ f2 e2⟩
    have hg : a.tmps.getD t undef = x := by rw [Array.getD_eq_getD_getElem?, f1]; rfl
    have hr : (resF a.tmps (.tmp t)).run P w = .ok x w := by show (pure (a.tmps.getD t undef) : Sem Value).run P w = _; rw [hg]; rfl
    simp [List.mapM_cons, hr, e1]
  | .cell q t :: l, m, h => by
    obtain ⟨v, h1, h2⟩ := obind_some (show obind (env.get q) (fun v => obind (ptrOf v) fun p => obind ((ldT P t).run H p) fun v => obind ((resC P l).run env H) fun l => some (v :: l)) = some m from h)
    obtain ⟨p, h3, h4⟩ := obind_some h2
    obtain ⟨u, h5, h6⟩ := obind_some h4
    obtain ⟨l', h7, h8⟩ := obind_some h6
    obtain rfl := Option.some.inj h8
    obtain ⟨xs, e1, e2⟩ := res_ok he hS l l' h7
    obtain ⟨x, f1, f2⟩ := he q v h1
    obtain ⟨L, hL, rfl⟩ := VR.ptr_inv (ptrOf_some h3 ▸ f2)
    obtain ⟨y, g1, g2⟩ := ld_run hS (b := p.1) (off := p.2) h5 hL
    refine ⟨y :: xs, ?_, .cons _ _ _ _ g2 e2⟩
    have hg : a.tmps.getD q undef = .pointer (some ⟨L.blk, L.sh + p.2, none⟩) := by rw [Array.getD_eq_getD_getElem?, f1]; rfl
    have hr : (resF a.tmps (.cell q t)).run P w = .ok y w := by
      show (do loadVar t (← asAddr (a.tmps.getD q undef)) : Sem Value).run P w = _
      rw [hg]; simp [asAddr, g1]
    simp [List.mapM_cons, hr, e1]

theorem results_ok {σ : Sg} {env : Env} {H : Heap} {a : Act} {w : World} {fn : Func} {m : List AV} (he : EnvR π σ env a) (hS : SR π B σ H w) (h : (resC P fn.results.toList).run env H = some m) :
    ∃ x, (results fn a.tmps).run P w = .ok x w ∧ VR π σ (tupleOf m) x := by
  obtain ⟨xs, h1, h2⟩ := res_ok he hS _ _ h
  have hm : (fn.results.mapM (resF a.tmps)).run P w = .ok xs.toArray w := by
    rw [Array.mapM_eq_mapM_toList]
    simp only [Sem.run_map]
    rw [h1]
    rfl
  have hr : (results fn a.tmps).run P w = .ok (if h : xs.toArray.size = 1 then xs.toArray[0] else .tuple xs.toArray) w := by
    have he : results fn a.tmps = (do let vs ← fn.results.mapM (resF a.tmps); pure (if h : vs.size = 1 then vs[0] else .tuple vs)) := by
      unfold results
      congr 1
    rw [he, Sem.run_bind, hm]
    rfl
  refine ⟨_, hr, ?_⟩
  have hl := h2.length
  match m, xs, h2 with
  | [], [], _ => exact .tuple _ _ .nil
  | [v], [x], .cons _ _ _ _ hv _ => exact hv
  | v :: v' :: l, x :: y :: l', h2 => exact .tuple _ _ (by simpa using h2)

theorem idxA_eq (c : UInt8) : ∀ (l : List UInt8) (i : Nat), idxA c.toNat l.length (bitsOf l) i = if Lib.indexByte l c = -1 then -1 else Lib.indexByte l c + i
  | [], i => rfl
  | b :: l, i => by
    have hb : b.toNat < 256 := b.toNat_lt
    have h1 : bitsOf (b :: l) % 256 = b.toNat := by show (b.toNat + 256 * bitsOf l) % 256 = _; omega
    have h2 : bitsOf (b :: l) / 256 = bitsOf l := by show (b.toNat + 256 * bitsOf l) / 256 = _; omega
    show (Bool.rec (idxA c.toNat l.length (bitsOf (b :: l) / 256) (i + 1)) (.ofNat i) (Nat.beq (bitsOf (b :: l) % 256) c.toNat) : Int) = _
    rw [h1, h2, idxA_eq c l (i + 1)]
    have hge := Lib.indexByte_ge l c
    cases he : Nat.beq b.toNat c.toNat with
    | true =>
      have : b = c := UInt8.toNat_inj.1 (Nat.eq_of_beq_eq_true he)
      subst this
      simp [Lib.indexByte]
    | false =>
      have hne : b ≠ c := fun e => by rw [e] at he; simp at he
      have hne' : (b == c) = false := by simpa using hne
      show (if Lib.indexByte l c = -1 then (-1 : Int) else Lib.indexByte l c + ((i + 1 : Nat) : Int)) = _
      simp only [Lib.indexByte, hne', Bool.false_eq_true, if_false, beq_iff_eq]
      split
      · simp
      · rename_i h
        rw [if_neg (by omega)]
        omega

theorem cntA_eq (c : UInt8) : ∀ (l : List UInt8) (i : Nat), cntA c.toNat l.length (bitsOf l) i = Lib.countByte l c + i
  | [], i => by show i = (0 : Nat) + i; omega
  | b :: l, i => by
    have hb : b.toNat < 256 := b.toNat_lt
    have h1 : bitsOf (b :: l) % 256 = b.toNat := by show (b.toNat + 256 * bitsOf l) % 256 = _; omega
    have h2 : bitsOf (b :: l) / 256 = bitsOf l := by show (b.toNat + 256 * bitsOf l) / 256 = _; omega
    show cntA c.toNat l.length (bitsOf (b :: l) / 256) (Bool.rec i (i + 1) (Nat.beq (bitsOf (b :: l) % 256) c.toNat)) = _
    rw [h1, h2, cntA_eq c l]
    unfold Lib.countByte
    cases he : Nat.beq b.toNat c.toNat with
    | true =>
      have : b = c := UInt8.toNat_inj.1 (Nat.eq_of_beq_eq_true he)
      subst this
      show _ + (i + 1) = _
      rw [List.count_cons_self]; omega
    | false =>
      have hne : b ≠ c := fun e => by rw [e] at he; simp at he
      show _ + i = _
      rw [List.count_cons_of_ne hne]

theorem ext_run {f : FuncId} {fn : Func} {e : Array Value → Sem Value} {nm : String} (hf : P.funcs[f]? = some fn) (hb : fn.body = none) (ho : (fn.origin == "") = true) (hn : (fn.name == nm) = true) (h0 : (nm == "runtime.NumGoroutine") = false)
    (h1 : (Extern.allNextRows.lookup nm).isNone = true) (h2 : (Extern.allNextRows.lookup "").isNone = true) (h3 : (Extern.allGenericRows.lookup nm).isNone = true) (h4 : (Extern.allTypedRows.lookup nm).isNone = true) (h5 : Extern.allRows.lookup nm = some e) (xs : Array Value) (w : World) :
    (callFunc f xs).run P w = ((e xs).run P w).andThen fun v w' => .ok (.value v) w' := by
  have hn' : fn.name = nm := by simpa using hn
  have ho' : fn.origin = "" := by simpa using ho
  refine run_callFunc_extern hf (by rw [hn']; exact h0) (by rw [hb]; rfl) ?_ ?_ xs w
  · unfold Extern.findNext
    rw [hn', ho']
    rw [Option.isNone_iff_eq_none] at h1 h2
    simp [h1, h2]
  · unfold Extern.find
    rw [hn', ho']
    rw [Option.isNone_iff_eq_none] at h3 h4
    simp [h3, h4, h5]

theorem ext_typed {f : FuncId} {fn : Func} {e : Array TypeId → Array TypeId → Array Value → Sem Value} {nm : String} (hf : P.funcs[f]? = some fn) (hb : fn.body = none) (ho : (fn.origin == "") = true) (hn : (fn.name == nm) = true) (h0 : (nm == "runtime.NumGoroutine") = false)
    (h1 : (Extern.allNextRows.lookup nm).isNone = true) (h2 : (Extern.allNextRows.lookup "").isNone = true) (h3 : (Extern.allGenericRows.lookup nm).isNone = true) (h4 : Extern.allTypedRows.lookup nm = some e) (xs : Array Value) (w : World) :
    (callFunc f xs).run P w = ((e fn.params fn.resultTypes xs).run P w).andThen fun v w' => .ok (.value v) w' := by
  have hn' : fn.name = nm := by simpa using hn
  have ho' : fn.origin = "" := by simpa using ho
  refine run_callFunc_extern hf (by rw [hn']; exact h0) (by rw [hb]; rfl) ?_ ?_ xs w
  · unfold Extern.findNext
    rw [hn', ho']
    rw [Option.isNone_iff_eq_none] at h1 h2
    simp [h1, h2]
  · unfold Extern.find
    rw [hn', ho']
    rw [Option.isNone_iff_eq_none] at h3
    simp [h3, h4]

theorem resE_some {ts : Array TypeId} {e : Nat} (h : resE P ts.toList = some e) : ∃ t, ts = #[t] ∧ P.underlying t = some (.slice e) := by
  obtain ⟨ts⟩ := ts
  unfold resE at h
  split at h
  · rename_i t ht
    exact ⟨t, by simp only at ht; rw [ht], elemS_some h⟩
  · simp at h

theorem ext_ok {f : FuncId} {fn : Func} (hf : P.funcs[f]? = some fn) (hb : fn.body = none) {args : List AV} {H : Heap} (hfine : ((extC P fn).run args H).fine) {σ : Sg} {w : World} {xs : Array Value} (hS : SR π B σ H w) (hl : VRL π σ args xs.toList) :
    Goes P f xs w (CallR π B ⟨σ, w, H, []⟩ ((extC P fn).run args H)) := by
  have fin : ∀ (x : Value) (v : AV), (callFunc f xs).run P w = .ok (.value x) w → VR π σ v x → Goes P f xs w (CallR π B ⟨σ, w, H, []⟩ (.ret v H)) := fun x v h hv =>
    .inr ⟨x, w, h, σ, x, rfl, hv, hS, Ext.refl _ _ _, Nx.refl _ _⟩
  have hx2 : ∀ {n bits : Nat} {c : Nat}, VRL π σ [.str n bits, .int .u8 (.ofNat c)] xs.toList → ∃ s : ByteArray, xs = #[.string s, .int .u8 (c : Int)] ∧ n = s.data.toList.length ∧ bits = bitsOf s.data.toList := by
    intro n bits c h
    match xs, h with
    | ⟨x :: y :: l⟩, .cons _ _ _ _ a b =>
      cases b with
      | cons _ _ _ _ b d =>
        cases d
        cases b
        cases a
        exact ⟨_, rfl, rfl, rfl⟩
  have hc : ∀ c : Nat, ((c : Int).toNat.toUInt8).toNat = c % 256 := fun c => by simp
  unfold extC at hfine ⊢
  split at hfine
  · rename_i ho hn
    dsimp only at hfine ⊢
    unfold idxE at hfine ⊢
    split at hfine
    · rename_i n bits c
      obtain ⟨s, rfl, rfl, rfl⟩ := hx2 hl
      refine fin _ _ ?_ (.int _ _)
      rw [ext_run hf hb ho hn (by decide +kernel) (by decide +kernel) (by decide +kernel) (by decide +kernel) (by decide +kernel) (e := Extern.BytealgIndexByte.indexByte) (by rfl), Lib.run_indexByteString]
      have := idxA_eq ((c : Int).toNat.toUInt8) s.data.toList 0
      rw [hc] at this
      show Result.ok _ _ = _
      have h2 : idxA (Nat.mod c 256) s.data.toList.length (bitsOf s.data.toList) 0 = Lib.indexByte s.data.toList (c : Int).toNat.toUInt8 := by
        rw [show Nat.mod c 256 = c % 256 from rfl, this]
        split
        · rename_i h; exact h.symm
        · simp
      rw [h2]
    · exact hfine.elim
  · rename_i ho hn _
    dsimp only at hfine ⊢
    unfold cntE at hfine ⊢
    split at hfine
    · rename_i n bits c
      obtain ⟨s, rfl, rfl, rfl⟩ := hx2 hl
      refine fin _ _ ?_ (.int _ _)
      rw [ext_run hf hb ho hn (by decide +kernel) (by decide +kernel) (by decide +kernel) (by decide +kernel) (by decide +kernel) (e := Extern.BytealgCount.count) (by rfl), Lib.run_countString]
      have := cntA_eq ((c : Int).toNat.toUInt8) s.data.toList 0
      rw [hc] at this
      show Result.ok _ _ = _
      rw [show Nat.mod c 256 = c % 256 from rfl, this]
      rfl
    · exact hfine.elim
  · rename_i ho hn _ _
    dsimp only at hfine ⊢
    unfold sameE at hfine ⊢
    split at hfine
    · rename_i v
      match xs, hl with
      | ⟨[x]⟩, .cons _ _ _ _ a .nil =>
        refine fin x v ?_ a
        rw [ext_run hf hb ho hn (by decide +kernel) (by decide +kernel) (by decide +kernel) (by decide +kernel) (by decide +kernel) (e := Extern.AbiNoEscape.same) (by rfl)]
        rfl
    · exact hfine.elim
  · rename_i ho hn _ _ _
    split at hfine
    · rename_i e he
      obtain ⟨t, ht, hte⟩ := resE_some he
      simp only at hfine ⊢
      unfold mnzE at hfine ⊢
      split at hfine
      · rename_i n
        cases hle : Nat.ble n 1000000 with
        | false => rw [hle] at hfine; exact hfine.elim
        | true =>
          have hn' := Nat.le_of_ble_eq_true hle
          match xs, hl with
          | ⟨[x]⟩, .cons _ _ _ _ a .nil =>
            obtain rfl := VR.int_inv a
            obtain ⟨cs, hrun, hge, _⟩ := Lib.run_makeNoZero (P := P) w fn.params t e hte n (by omega)
            have hc := ext_typed (w := w) (xs := #[.int .i64 (n : Int)]) hf hb ho hn (by decide +kernel) (by decide +kernel) (by decide +kernel) (by decide +kernel) (e := Extern.BytealgMakeNoZero.makeNoZero) (by rfl)
            rw [ht, hrun] at hc
            obtain ⟨σ', e1, e2, e3, e4⟩ := SR.new (w' := w.drew.drew.alloc (.cells cs e)) hS (.row [] (typ 2 e) 0 0) ⟨w.heap.size, 0, cs.size⟩ rfl (fun k hk => heap_alloc_old w.drew.drew _ k hk) (by simp) ⟨rfl, rfl, rfl⟩
              (fun σ' hs => ⟨cs, e, (0, 0), heap_alloc_new w.drew.drew _, rfl, ⟨by simp, fun i v hv => by simp at hv⟩, FrzR.no _ _ _ _, typ2 _ _ _ rfl⟩)
            refine .inr ⟨_, _, hc, σ', _, rfl, ?_, e2, e3, e4⟩
            have := VR.sliceg (π := π) (σ := σ') H.next 0 n 0 0 ⟨w.heap.size, 0, cs.size⟩ cs.size e1 hge (Nat.zero_le _) (by simp)
            simpa using this
      · exact hfine.elim
    · exact hfine.elim
  · exact hfine.elim

theorem entry0_ok {K : Known} (hK : KnownOk π B P K) (hn : NamesOk P) {n : Nat} {ih : Ih} (hi : ExecOk π B P n ih) : CbOk π B P (fun f args H => (entry0 P K f).run ih args H) := by
  intro f args H hfine σ w xs hS hl
  show Goes P f xs w (CallR π B ⟨σ, w, H, []⟩ ((entry0 P K f).run ih args H))
  have hfine : ((entry0 P K f).run ih args H).fine := hfine
  generalize hcr : (entry0 P K f).run ih args H = cr at hfine ⊢
  unfold entry0 at hcr
  split at hcr
  · rename_i fn hf
    split at hcr
    · rename_i body hb hok
      -- the body's run
      have run : ∀ cr, cr.fine → leave (resC P fn.results.toList).run (ih body (bindArgs args 0 Env.emp) H) = cr → Calls P f xs w (CallR π B ⟨σ, w, H, []⟩ cr) := by
        intro cr hfine h
        refine calls_of_wp hf hb ?_
        have hok' : codeOk fn.ntmps body = true := by rw [hb] at hok; exact hok
        have hA : At π B ⟨σ, w, H, []⟩ fn.ntmps σ (bindArgs args 0 Env.emp) H { tmps := xs ++ Array.replicate (fn.ntmps - xs.size) undef, defers := [] } w := by
          refine ⟨bind_ok args 0 _ σ _ xs.toList hl (fun j hj => ?_) (fun t u hu => ?_), hS, Ext.refl _ _ _, Nx.refl _ _, by simp; omega, rfl⟩
          · rw [Array.length_toList] at hj
            rw [Nat.zero_add, Array.getElem?_append_left hj]; simp
          · have : (getc 3 t).run (empT 3 : PT AV 3) = none := get_emp 3 t
            rw [show Env.get Env.emp t = none from this] at hu; simp at hu
        cases hr : ih body (bindArgs args 0 Env.emp) H with
        | no l => rw [hr] at h; subst h; exact hfine.elim
        | ok x env' H' =>
          rw [hr] at h
          have hw := (hi body _ _ x env' H' hr ⟨σ, w, H, []⟩ fn.ntmps σ _ w hok' hA).1
          refine Code.wp_mono (fun e a w' hd => ?_) hw
          obtain ⟨σ', hx, hA'⟩ := hd
          have lv : leaveV (resC P fn.results.toList).run env' H' = cr → ∃ v, (results fn a.tmps).run P w' = .ok v w' ∧ CallR π B ⟨σ, w, H, []⟩ cr (.returned v) w' := by
            intro h
            unfold leaveV at h
            cases hm : (resC P fn.results.toList).run env' H' with
            | none => rw [hm] at h; subst h; exact hfine.elim
            | some m =>
              rw [hm] at h; subst h
              obtain ⟨y, h1, h2⟩ := results_ok hA'.env hA'.sr hm
              exact ⟨y, h1, σ', y, rfl, h2, hA'.sr, hA'.ext, hA'.nx⟩
          cases x with
          | normal =>
            cases e <;> first | exact hx.elim | skip
            exact ⟨hA'.df, lv h⟩
          | ret =>
            cases e <;> first | exact hx.elim | skip
            exact ⟨hA'.df, lv h⟩
          | panic v =>
            cases e <;> first | exact hx.elim | skip
            obtain ⟨y, rfl, hy⟩ := hx
            obtain rfl := (show CR.pan v H' = cr from h)
            exact ⟨hA'.df, σ', y, rfl, hy, hA'.sr, hA'.ext, hA'.nx⟩
          | exit i => obtain rfl := (show CR.no [4] = cr from h); exact hfine.elim
          | goto i => obtain rfl := (show CR.no [4] = cr from h); exact hfine.elim
      split at hcr
      · exact .inl ⟨enter_run hn hf hb xs w, run cr hfine hcr⟩
      · rename_i g hg
        refine .inl ⟨enter_run hn hf hb xs w, ?_⟩
        have h2 : orElse (g args H) (leave (resC P fn.results.toList).run (ih body (bindArgs args 0 Env.emp) H)) = cr := hcr
        unfold orElse at h2
        split at h2
        · exact run cr hfine h2
        · rw [← h2]
          refine hK f g hg args H ?_ σ w xs hS hl
          rw [h2]; exact hfine
    · rename_i hb
      have h2 : (extC P fn).run args H = cr := hcr
      rw [← h2] at hfine ⊢
      exact ext_ok hf hb hfine hS hl
    · obtain rfl := (show CR.no [60] = cr from hcr); exact hfine.elim
  · obtain rfl := (show CR.no [7] = cr from hcr); exact hfine.elim

end
end Go.Proofs.Ytlnjikneepgpaaa.Fast
