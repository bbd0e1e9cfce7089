/- The second run of a whole call does what the model's does. -/
import Derived.Test.YtpoekljclapbfaaDoorEvDraw
import Derived.Lib.Bytealg
import Derived.Laws.Externs
namespace Go.Proofs.YtpoekljclapbfaaDoor.Fast
open Go.RowKit (Below)
section
variable {π : Nat → Value} {B : Nat} {P : Program}

theorem Done.mono {b b' : Base} {N : Nat} {x : Ex} {env : Env} {H : Heap} (h1 : Ext b.σ b.h.know b.w b'.σ b'.h.know b'.w) (h2 : Nx b.σ b.h b'.σ b'.h) {e : Exit} {a : Act} {w : World}
    (h : Done π B b' N x env H e a w) : Done π B b N x env H e a w :=
  let ⟨σ, hx, hA⟩ := h
  ⟨σ, hx, hA.env, hA.sr, h1.trans hA.ext, h2.trans hA.nx, hA.tm, hA.df⟩

/-- from here on -/
theorem At.here {b : Base} {N : Nat} {σ : Sg} {env : Env} {H : Heap} {a : Act} {w : World} (h : At π B b N σ env H a w) : At π B ⟨σ, w, H⟩ N σ env H a w :=
  ⟨h.env, h.sr, Ext.refl _ _ _, Nx.refl _ _, h.tm, h.df⟩

def KnownOk (π : Nat → Value) (B : Nat) (P : Program) (K : Known) : Prop :=
  ∀ f g, K f = some g → ∀ args H, (g args H).fine → ∀ σ w (xs : Array Value), SR π B σ H w → VRL π σ args xs.toList → Calls P f xs w (CallR π B ⟨σ, w, H⟩ (g args H))

/-- no function with a body bears the one name that the model takes by itself -/
def NamesOk (P : Program) : Prop := ∀ (f : Nat) fn, P.funcs[f]? = some fn → fn.body.isSome = true → (fn.name == "runtime.NumGoroutine") = false

theorem enter_run (hn : NamesOk P) {f : FuncId} {fn : Func} {c : Code} (hf : P.funcs[f]? = some fn) (hb : fn.body = some c) (xs : Array Value) (w : World) : (callFunc f xs).run P w = .ok (.enter f xs) w := by
  have h0 := hn f fn hf (by rw [hb]; rfl)
  have : fn.name ≠ "runtime.NumGoroutine" := by simpa using h0
  simp [callFunc, hf, this, hb]

def ExecOk (π : Nat → Value) (B : Nat) (P : Program) (n : Nat) (ih : Ih) : Prop :=
  ∀ c env H x env' H', ih c env H = .ok x env' H' → ∀ b N σ a w, codeOk N c = true → At π B b N σ env H a w →
    c.wp P (Done π B b N x env' H') a w ∧ ∀ c', c = .loop c' → Code.rounds P c' (Done π B b N x env' H') n a w

theorem bind_ok : ∀ (l : List AV) (i : Nat) (env : Env) (σ : Sg) (a : Act) (xs : List Value), VRL π σ l xs → (∀ j, j < xs.length → a.tmps[i + j]? = xs[j]?) → EnvR π σ env a → EnvR π σ (bindArgs l i env) a
  | [], _, _, _, _, _, _, _, h => h
  | v :: l, i, env, σ, a, xs, hl, hx, h => by
    cases hl with
    | cons _ x _ xs' h1 h2 =>
      refine bind_ok l (i + 1) ((setc 3 i).run env v) σ a xs' h2 (fun j hj => ?_) (fun t u hu => ?_)
      · have := hx (j + 1) (by simp; omega)
        rw [show i + 1 + j = i + (j + 1) by omega, this]; simp
      · rcases get_set 3 i t env v u hu with ⟨rfl, rfl⟩ | ⟨e1, e2⟩
        · exact ⟨x, by simpa using hx 0 (by simp), h1⟩
        · exact h t u e2

def resF (tmps : Array Value) : ResultVar → Sem Value
  | .tmp t => pure (tmps.getD t undef)
  | .cell a t => do loadVar t (← asAddr (tmps.getD a undef))

theorem res_ok {σ : Sg} {env : Env} {H : Heap} {a : Act} {w : World} (he : EnvR π σ env a) (hS : SR π B σ H w) : ∀ (l : List ResultVar) (m : List AV), (resC P l).run env H = some m →
    ∃ xs : List Value, (l.mapM (resF a.tmps)).run P w = .ok xs w ∧ VRL π σ m xs
  | [], m, h => by obtain rfl := Option.some.inj (show some [] = some m from h); exact ⟨[], by simp, .nil⟩
  | .tmp t :: l, m, h => by
    obtain ⟨v, h1, h2⟩ := obind_some (show obind (env.get t) (fun v => obind ((resC P l).run env H) fun l => some (v :: l)) = some m from h)
    obtain ⟨l', h3, h4⟩ := obind_some h2
    obtain rfl := Option.some.inj h4
    obtain ⟨xs, e1, e2⟩ := res_ok he hS l l' h3
    obtain ⟨x, f1, f2⟩ := he t v h1
    refine ⟨x :: xs, ?_, .cons _ _ _ _ f2 e2⟩
    have hg : a.tmps.getD t undef = x := by rw [Array.getD_eq_getD_getElem?, f1]; rfl
    have hr : (resF a.tmps (.tmp t)).run P w = .ok x w := by show (pure (a.tmps.getD t undef) : Sem Value).run P w = _; rw [hg]; rfl
    simp [List.mapM_cons, hr, e1]
  | .cell q t :: l, m, h => by
    obtain ⟨v, h1, h2⟩ := obind_some (show obind (env.get q) (fun v => obind (ptrOf v) fun p => obind ((ldT P t).run H p) fun v => obind ((resC P l).run env H) fun l => some (v :: l)) = some m from h)
    obtain ⟨p, h3, h4⟩ := obind_some h2
    obtain ⟨u, h5, h6⟩ := obind_some h4
    obtain ⟨l', h7, h8⟩ := obind_some h6
    obtain rfl := Option.some.inj h8
    obtain ⟨xs, e1, e2⟩ := res_ok he hS l l' h7
    obtain ⟨x, f1, f2⟩ := he q v h1
    obtain ⟨L, hL, rfl⟩ := VR.ptr_inv (ptrOf_some h3 ▸ f2)
    obtain ⟨y, g1, g2⟩ := ld_run hS (b := p.1) (off := p.2) h5 hL
    refine ⟨y :: xs, ?_, .cons _ _ _ _ g2 e2⟩
    have hg : a.tmps.getD q undef = .pointer (some ⟨L.blk, L.sh + p.2, none⟩) := by rw [Array.getD_eq_getD_getElem?, f1]; rfl
    have hr : (resF a.tmps (.cell q t)).run P w = .ok y w := by
      show (do loadVar t (← asAddr (a.tmps.getD q undef)) : Sem Value).run P w = _
      rw [hg]; simp [asAddr, g1]
    simp [List.mapM_cons, hr, e1]

theorem results_ok {σ : Sg} {env : Env} {H : Heap} {a : Act} {w : World} {fn : Func} {m : List AV} (he : EnvR π σ env a) (hS : SR π B σ H w) (h : (resC P fn.results.toList).run env H = some m) :
    ∃ x, (results fn a.tmps).run P w = .ok x w ∧ VR π σ (tupleOf m) x := by
  obtain ⟨xs, h1, h2⟩ := res_ok he hS _ _ h
  have hm : (fn.results.mapM (resF a.tmps)).run P w = .ok xs.toArray w := by
    rw [Array.mapM_eq_mapM_toList]
    simp only [Sem.run_map]
    rw [h1]
    rfl
  have hr : (results fn a.tmps).run P w = .ok (if h : xs.toArray.size = 1 then xs.toArray[0] else .tuple xs.toArray) w := by
    have he : results fn a.tmps = (do let vs ← fn.results.mapM (resF a.tmps); pure (if h : vs.size = 1 then vs[0] else .tuple vs)) := by
      unfold results
      congr 1
    rw [he, Sem.run_bind, hm]
    rfl
  refine ⟨_, hr, ?_⟩
  have hl := h2.length
  match m, xs, h2 with
  | [], [], _ => exact .tuple _ _ .nil
  | [v], [x], .cons _ _ _ _ hv _ => exact hv
  | v :: v' :: l, x :: y :: l', h2 => exact .tuple _ _ (by simpa using h2)

theorem idxA_eq (c : UInt8) : ∀ (l : List UInt8) (i : Nat), idxA c.toNat l.length (bitsOf l) i = if Lib.indexByte l c = -1 then -1 else Lib.indexByte l c + i
  | [], i => rfl
  | b :: l, i => by
    have hb : b.toNat < 256 := b.toNat_lt
    have h1 : bitsOf (b :: l) % 256 = b.toNat := by show (b.toNat + 256 * bitsOf l) % 256 = _; omega
    have h2 : bitsOf (b :: l) / 256 = bitsOf l := by show (b.toNat + 256 * bitsOf l) / 256 = _; omega
    show (Bool.rec (idxA c.toNat l.length (bitsOf (b :: l) / 256) (i + 1)) (.ofNat i) (Nat.beq (bitsOf (b :: l) % 256) c.toNat) : Int) = _
    rw [h1, h2, idxA_eq c l (i + 1)]
    have hge := Lib.indexByte_ge l c
    cases he : Nat.beq b.toNat c.toNat with
    | true =>
      have : b = c := UInt8.toNat_inj.1 (Nat.eq_of_beq_eq_true he)
      subst this
      simp [Lib.indexByte]
    | false =>
      have hne : b ≠ c := fun e => by rw [e] at he; simp at he
      have hne' : (b == c) = false := by simpa using hne
      show (if Lib.indexByte l c = -1 then (-1 : Int) else Lib.indexByte l c + ((i + 1 : Nat) : Int)) = _
      simp only [Lib.indexByte, hne', Bool.false_eq_true, if_false, beq_iff_eq]
      split
      · simp
      · rename_i h
        rw [if_neg (by omega)]
        omega

theorem cntA_eq (c : UInt8) : ∀ (l : List UInt8) (i : Nat), cntA c.toNat l.length (bitsOf l) i = Lib.countByte l c + i
  | [], i => by show i = (0 : Nat) + i; omega
  | b :: l, i => by
    have hb : b.toNat < 256 := b.toNat_lt
    have h1 : bitsOf (b :: l) % 256 = b.toNat := by show (b.toNat + 256 * bitsOf l) % 256 = _; omega
    have h2 : bitsOf (b :: l) / 256 = bitsOf l := by show (b.toNat + 256 * bitsOf l) / 256 = _; omega
    show cntA c.toNat l.length (bitsOf (b :: l) / 256) (Bool.rec i (i + 1) (Nat.beq (bitsOf (b :: l) % 256) c.toNat)) = _
    rw [h1, h2, cntA_eq c l]
    unfold Lib.countByte
    cases he : Nat.beq b.toNat c.toNat with
    | true =>
      have : b = c := UInt8.toNat_inj.1 (Nat.eq_of_beq_eq_true he)
      subst this
      show _ + (i + 1) = _
      rw [List.count_cons_self]; omega
    | false =>
      have hne : b ≠ c := fun e => by rw [e] at he; simp at he
      show _ + i = _
      rw [List.count_cons_of_ne hne]

theorem ext_run {f : FuncId} {fn : Func} {e : Array Value → Sem Value} {nm : String} (hf : P.funcs[f]? = some fn) (hb : fn.body = none) (ho : (fn.origin == "") = true) (hn : (fn.name == nm) = true) (h0 : (nm == "runtime.NumGoroutine") = false)
    (h1 : (Extern.allNextRows.lookup nm).isNone = true) (h2 : (Extern.allNextRows.lookup "").isNone = true) (h3 : (Extern.allGenericRows.lookup nm).isNone = true) (h4 : (Extern.allTypedRows.lookup nm).isNone = true) (h5 : Extern.allRows.lookup nm = some e) (xs : Array Value) (w : World) :
    (callFunc f xs).run P w = ((e xs).run P w).andThen fun v w' => .ok (.value v) w' := by
  have hn' : fn.name = nm := by simpa using hn
  have ho' : fn.origin = "" := by simpa using ho
  refine run_callFunc_extern hf (by rw [hn']; exact h0) (by rw [hb]; rfl) ?_ ?_ xs w
  · unfold Extern.findNext
    rw [hn', ho']
    rw [Option.isNone_iff_eq_none] at h1 h2
    simp [h1, h2]
  · unfold Extern.find
    rw [hn', ho']
    rw [Option.isNone_iff_eq_none] at h3 h4
    simp [h3, h4, h5]

theorem ext_ok {f : FuncId} {fn : Func} (hf : P.funcs[f]? = some fn) (hb : fn.body = none) {args : List AV} {H : Heap} (hfine : ((extC fn).run args H).fine) {σ : Sg} {w : World} {xs : Array Value} (hS : SR π B σ H w) (hl : VRL π σ args xs.toList) :
    Goes P f xs w (CallR π B ⟨σ, w, H⟩ ((extC fn).run args H)) := by
  have fin : ∀ (x : Value) (v : AV), (callFunc f xs).run P w = .ok (.value x) w → VR π σ v x → Goes P f xs w (CallR π B ⟨σ, w, H⟩ (.ret v H)) := fun x v h hv =>
    .inr ⟨x, w, h, σ, x, rfl, hv, hS, Ext.refl _ _ _, Nx.refl _ _⟩
  have hx2 : ∀ {n bits : Nat} {c : Nat}, VRL π σ [.str n bits, .int .u8 (.ofNat c)] xs.toList → ∃ s : ByteArray, xs = #[.string s, .int .u8 (c : Int)] ∧ n = s.data.toList.length ∧ bits = bitsOf s.data.toList := by
    intro n bits c h
    match xs, h with
    | ⟨x :: y :: l⟩, .cons _ _ _ _ a b =>
      cases b with
      | cons _ _ _ _ b d =>
        cases d
        cases b
        cases a
        exact ⟨_, rfl, rfl, rfl⟩
  have hc : ∀ c : Nat, ((c : Int).toNat.toUInt8).toNat = c % 256 := fun c => by simp
  unfold extC at hfine ⊢
  split at hfine
  · rename_i ho hn
    dsimp only at hfine ⊢
    unfold idxE at hfine ⊢
    split at hfine
    · rename_i n bits c
      obtain ⟨s, rfl, rfl, rfl⟩ := hx2 hl
      refine fin _ _ ?_ (.int _ _)
      rw [ext_run hf hb ho hn (by decide +kernel) (by decide +kernel) (by decide +kernel) (by decide +kernel) (by decide +kernel) (e := Extern.BytealgIndexByte.indexByte) (by rfl), Lib.run_indexByteString]
      have := idxA_eq ((c : Int).toNat.toUInt8) s.data.toList 0
      rw [hc] at this
      show Result.ok _ _ = _
      have h2 : idxA (Nat.mod c 256) s.data.toList.length (bitsOf s.data.toList) 0 = Lib.indexByte s.data.toList (c : Int).toNat.toUInt8 := by
        rw [show Nat.mod c 256 = c % 256 from rfl, this]
        split
        · rename_i h; exact h.symm
        · simp
      rw [h2]
    · exact hfine.elim
  · rename_i ho hn _
    dsimp only at hfine ⊢
    unfold cntE at hfine ⊢
    split at hfine
    · rename_i n bits c
      obtain ⟨s, rfl, rfl, rfl⟩ := hx2 hl
      refine fin _ _ ?_ (.int _ _)
      rw [ext_run hf hb ho hn (by decide +kernel) (by decide +kernel) (by decide +kernel) (by decide +kernel) (by decide +kernel) (e := Extern.BytealgCount.count) (by rfl), Lib.run_countString]
      have := cntA_eq ((c : Int).toNat.toUInt8) s.data.toList 0
      rw [hc] at this
      show Result.ok _ _ = _
      rw [show Nat.mod c 256 = c % 256 from rfl, this]
      rfl
    · exact hfine.elim
  · rename_i ho hn _ _
    dsimp only at hfine ⊢
    unfold sameE at hfine ⊢
    split at hfine
    · rename_i v
      match xs, hl with
      | ⟨[x]⟩, .cons _ _ _ _ a .nil =>
        refine fin x v ?_ a
        rw [ext_run hf hb ho hn (by decide +kernel) (by decide +kernel) (by decide +kernel) (by decide +kernel) (by decide +kernel) (e := Extern.AbiNoEscape.same) (by rfl)]
        rfl
    · exact hfine.elim
  · exact hfine.elim

theorem entry_ok {K : Known} (hK : KnownOk π B P K) (hn : NamesOk P) {n : Nat} {ih : Ih} (hi : ExecOk π B P n ih) : CbOk π B P (fun f args H => (entry P K f).run ih args H) := by
  intro f args H hfine σ w xs hS hl
  show Goes P f xs w (CallR π B ⟨σ, w, H⟩ ((entry P K f).run ih args H))
  have hfine : ((entry P K f).run ih args H).fine := hfine
  generalize hcr : (entry P K f).run ih args H = cr at hfine ⊢
  unfold entry at hcr
  split at hcr
  · rename_i fn hf
    split at hcr
    · rename_i body hb hok
      -- the body's run
      have run : ∀ cr, cr.fine → leave (resC P fn.results.toList).run (ih body (bindArgs args 0 Env.emp) H) = cr → Calls P f xs w (CallR π B ⟨σ, w, H⟩ cr) := by
        intro cr hfine h
        refine calls_of_wp hf hb ?_
        have hok' : codeOk fn.ntmps body = true := by rw [hb] at hok; exact hok
        have hA : At π B ⟨σ, w, H⟩ fn.ntmps σ (bindArgs args 0 Env.emp) H { tmps := xs ++ Array.replicate (fn.ntmps - xs.size) undef, defers := [] } w := by
          refine ⟨bind_ok args 0 _ σ _ xs.toList hl (fun j hj => ?_) (fun t u hu => ?_), hS, Ext.refl _ _ _, Nx.refl _ _, by simp; omega, rfl⟩
          · rw [Array.length_toList] at hj
            rw [Nat.zero_add, Array.getElem?_append_left hj]; simp
          · have : (getc 3 t).run (empT 3 : PT AV 3) = none := get_emp 3 t
            rw [show Env.get Env.emp t = none from this] at hu; simp at hu
        cases hr : ih body (bindArgs args 0 Env.emp) H with
        | no l => rw [hr] at h; subst h; exact hfine.elim
        | ok x env' H' =>
          rw [hr] at h
          have hw := (hi body _ _ x env' H' hr ⟨σ, w, H⟩ fn.ntmps σ _ w hok' hA).1
          refine Code.wp_mono (fun e a w' hd => ?_) hw
          obtain ⟨σ', hx, hA'⟩ := hd
          have lv : leaveV (resC P fn.results.toList).run env' H' = cr → ∃ v, (results fn a.tmps).run P w' = .ok v w' ∧ CallR π B ⟨σ, w, H⟩ cr (.returned v) w' := by
            intro h
            unfold leaveV at h
            cases hm : (resC P fn.results.toList).run env' H' with
            | none => rw [hm] at h; subst h; exact hfine.elim
            | some m =>
              rw [hm] at h; subst h
              obtain ⟨y, h1, h2⟩ := results_ok hA'.env hA'.sr hm
              exact ⟨y, h1, σ', y, rfl, h2, hA'.sr, hA'.ext, hA'.nx⟩
          cases x with
          | normal =>
            cases e <;> first | exact hx.elim | skip
            exact ⟨hA'.df, lv h⟩
          | ret =>
            cases e <;> first | exact hx.elim | skip
            exact ⟨hA'.df, lv h⟩
          | panic v =>
            cases e <;> first | exact hx.elim | skip
            obtain ⟨y, rfl, hy⟩ := hx
            obtain rfl := (show CR.pan v H' = cr from h)
            exact ⟨hA'.df, σ', y, rfl, hy, hA'.sr, hA'.ext, hA'.nx⟩
          | exit i => obtain rfl := (show CR.no [4] = cr from h); exact hfine.elim
          | goto i => obtain rfl := (show CR.no [4] = cr from h); exact hfine.elim
      split at hcr
      · exact .inl ⟨enter_run hn hf hb xs w, run cr hfine hcr⟩
      · rename_i g hg
        refine .inl ⟨enter_run hn hf hb xs w, ?_⟩
        have h2 : orElse (g args H) (leave (resC P fn.results.toList).run (ih body (bindArgs args 0 Env.emp) H)) = cr := hcr
        unfold orElse at h2
        split at h2
        · exact run cr hfine h2
        · rw [← h2]
          refine hK f g hg args H ?_ σ w xs hS hl
          rw [h2]; exact hfine
    · rename_i hb
      have h2 : (extC fn).run args H = cr := hcr
      rw [← h2] at hfine ⊢
      exact ext_ok hf hb hfine hS hl
    · obtain rfl := (show CR.no [60] = cr from hcr); exact hfine.elim
  · obtain rfl := (show CR.no [7] = cr from hcr); exact hfine.elim

theorem step_ok (hπ : ∀ i, (π i).oneCell' = true) {K : Known} (hK : KnownOk π B P K) (hn : NamesOk P) (hm : P.follows .mixedOrders = true) {n : Nat} {ih : Ih} (hi : ExecOk π B P n ih) : ExecOk π B P (n + 1) (fun c env H => (stepC P K c).run ih env H) := by
  intro c env H x env' H' h b N σ a w hok hA
  have hcb := entry_ok hK hn hi
  -- what follows behind a first part
  have seq : ∀ (c1 c2 : Code), seqK (ih c2) (ih c1 env H) = .ok x env' H' → codeOk N c1 = true → codeOk N c2 = true →
      c1.wp P (Exit.then (c2.wp P (Done π B b N x env' H')) (Done π B b N x env' H')) a w ∧ (∀ c', c2 = .loop c' → c1.wp P (Exit.then (Code.rounds P c' (Done π B b N x env' H') n) (Done π B b N x env' H')) a w) := by
    intro c1 c2 h h1 h2
    cases hr : ih c1 env H with
    | no l => rw [hr] at h; exact absurd (show R.no l = R.ok x env' H' from h) (by simp)
    | ok x1 env1 H1 =>
      rw [hr] at h
      have hw := (hi c1 env H x1 env1 H1 hr b N σ a w h1 hA).1
      have key : ∀ (F : Act → World → Prop), (∀ σ1 a1 w1, At π B b N σ1 env1 H1 a1 w1 → ih c2 env1 H1 = .ok x env' H' → F a1 w1) → c1.wp P (Exit.then F (Done π B b N x env' H')) a w := by
        intro F hF
        refine Code.wp_mono (fun e a1 w1 hd => ?_) hw
        obtain ⟨σ1, hx, hA1⟩ := hd
        cases x1 with
        | normal =>
          cases e <;> first | exact hx.elim | skip
          exact hF σ1 a1 w1 hA1 h
        | exit i =>
          cases e <;> first | exact hx.elim | skip
          obtain ⟨rfl, rfl, rfl⟩ := R.ok.inj (show R.ok (.exit i) env1 H1 = R.ok x env' H' from h)
          exact ⟨σ1, hx, hA1⟩
        | goto i =>
          cases e <;> first | exact hx.elim | skip
          obtain ⟨rfl, rfl, rfl⟩ := R.ok.inj (show R.ok (.goto i) env1 H1 = R.ok x env' H' from h)
          exact ⟨σ1, hx, hA1⟩
        | ret =>
          cases e <;> first | exact hx.elim | skip
          obtain ⟨rfl, rfl, rfl⟩ := R.ok.inj (show R.ok .ret env1 H1 = R.ok x env' H' from h)
          exact ⟨σ1, hx, hA1⟩
        | panic v =>
          cases e <;> first | exact hx.elim | skip
          obtain ⟨rfl, rfl, rfl⟩ := R.ok.inj (show R.ok (.panic v) env1 H1 = R.ok x env' H' from h)
          exact ⟨σ1, hx, hA1⟩
      exact ⟨key _ fun σ1 a1 w1 hA1 h1 => (hi c2 env1 H1 x env' H' h1 b N σ1 a1 w1 h2 hA1).1, fun c' hc => key _ fun σ1 a1 w1 hA1 h1 => (hi c2 env1 H1 x env' H' h1 b N σ1 a1 w1 h2 hA1).2 c' hc⟩
  cases c with
  | skip =>
    obtain ⟨rfl, rfl, rfl⟩ := R.ok.inj (show R.ok .normal env H = R.ok x env' H' from h)
    exact ⟨wp_skip ⟨σ, trivial, hA⟩, fun c' hc => by simp at hc⟩
  | label l =>
    obtain ⟨rfl, rfl, rfl⟩ := R.ok.inj (show R.ok .normal env H = R.ok x env' H' from h)
    exact ⟨wp_label ⟨σ, trivial, hA⟩, fun c' hc => by simp at hc⟩
  | region id ops draw =>
    refine ⟨?_, fun c' hc => by simp at hc⟩
    cases draw with
    | false => exact wp_region_list (ops_ok hπ hcb ops.toList σ env H a w hok hA h)
    | true =>
      refine draw_ok hπ hcb hm hok hA ?_
      have h2 : tagR id ((drawC P ops.toList).run (fun f args H => (entry P K f).run ih args H) env H) = .ok x env' H' := h
      unfold tagR at h2
      split at h2
      · simp at h2
      · exact h2
  | seq c1 c2 =>
    obtain ⟨h1, h2⟩ := band_true (show band (codeOk N c1) (codeOk N c2) = true from hok)
    exact ⟨wp_seq (seq c1 c2 h h1 h2).1, fun c' hc => by simp at hc⟩
  | cond c c1 c2 =>
    refine ⟨?_, fun c' hc => by simp at hc⟩
    obtain ⟨h1, h2⟩ := band_true (show band (codeOk N c1) (codeOk N c2) = true from hok)
    have h : condK (ih c1 env H) (ih c2 env H) ((gop c).run env) = .ok x env' H' := h
    unfold condK at h
    cases hg : (gop c).run env with
    | none => rw [hg] at h; exact absurd (show R.no [8] = R.ok x env' H' from h) (by simp)
    | some v =>
      rw [hg] at h
      cases hb : boolOf v with
      | none =>
        have h : (Option.rec (.no [8]) (fun c => Bool.rec (ih c2 env H) (ih c1 env H) c) (boolOf v) : R) = .ok x env' H' := h
        rw [hb] at h; exact absurd (show R.no [8] = R.ok x env' H' from h) (by simp)
      | some t =>
        have h : (Option.rec (.no [8]) (fun c => Bool.rec (ih c2 env H) (ih c1 env H) c) (boolOf v) : R) = .ok x env' H' := h
        rw [hb] at h
        have hv : v = .bool t := by
          unfold boolOf at hb
          split at hb
          · obtain rfl := Option.some.inj hb; rfl
          · simp at hb
        subst hv
        have hc := VR.bool_inv (gop_VR hA.env hg)
        refine wp_cond hc ?_
        cases t with
        | true => exact (hi c1 env H x env' H' h b N σ a w h1 hA).1
        | false => exact (hi c2 env H x env' H' h b N σ a w h2 hA).1
  | block id c1 =>
    refine ⟨?_, fun c' hc => by simp at hc⟩
    have h : blockK id (ih c1 env H) = .ok x env' H' := h
    refine wp_block ?_
    cases hr : ih c1 env H with
    | no l => rw [hr] at h; exact absurd (show R.no l = R.ok x env' H' from h) (by simp)
    | ok x1 env1 H1 =>
      rw [hr] at h
      have hw := (hi c1 env H x1 env1 H1 hr b N σ a w hok hA).1
      refine Code.wp_mono (fun e a1 w1 hd => ?_) hw
      obtain ⟨σ1, hx, hA1⟩ := hd
      cases x1 with
      | exit i =>
        cases e <;> first | exact hx.elim | skip
        rename_i j
        obtain rfl : i = j := hx
        have h : (Bool.rec (.ok (.exit i) env1 H1) (.ok .normal env1 H1) (Nat.beq i id) : R) = .ok x env' H' := h
        show if i = id then _ else _
        cases hb : Nat.beq i id with
        | true =>
          rw [hb] at h
          obtain ⟨rfl, rfl, rfl⟩ := R.ok.inj (show R.ok .normal env1 H1 = R.ok x env' H' from h)
          rw [if_pos (Nat.eq_of_beq_eq_true hb)]
          exact ⟨σ1, trivial, hA1⟩
        | false =>
          rw [hb] at h
          obtain ⟨rfl, rfl, rfl⟩ := R.ok.inj (show R.ok (.exit i) env1 H1 = R.ok x env' H' from h)
          rw [if_neg (Nat.ne_of_beq_eq_false hb)]
          exact ⟨σ1, rfl, hA1⟩
      | normal =>
        cases e <;> first | exact hx.elim | skip
        obtain ⟨rfl, rfl, rfl⟩ := R.ok.inj (show R.ok .normal env1 H1 = R.ok x env' H' from h)
        exact ⟨σ1, trivial, hA1⟩
      | goto i =>
        cases e <;> first | exact hx.elim | skip
        obtain ⟨rfl, rfl, rfl⟩ := R.ok.inj (show R.ok (.goto i) env1 H1 = R.ok x env' H' from h)
        exact ⟨σ1, hx, hA1⟩
      | ret =>
        cases e <;> first | exact hx.elim | skip
        obtain ⟨rfl, rfl, rfl⟩ := R.ok.inj (show R.ok .ret env1 H1 = R.ok x env' H' from h)
        exact ⟨σ1, trivial, hA1⟩
      | panic v =>
        cases e <;> first | exact hx.elim | skip
        obtain ⟨rfl, rfl, rfl⟩ := R.ok.inj (show R.ok (.panic v) env1 H1 = R.ok x env' H' from h)
        exact ⟨σ1, hx, hA1⟩
  | loop c1 =>
    have hr : Code.rounds P c1 (Done π B b N x env' H') (n + 1) a w := (seq c1 (.loop c1) h hok hok).2 c1 rfl
    exact ⟨wp_loop_rounds _ hr, fun c' hc => by obtain rfl := Code.loop.inj hc; exact hr⟩
  | exit id =>
    obtain ⟨rfl, rfl, rfl⟩ := R.ok.inj (show R.ok (.exit id) env H = R.ok x env' H' from h)
    exact ⟨wp_exit ⟨σ, rfl, hA⟩, fun c' hc => by simp at hc⟩
  | ret =>
    obtain ⟨rfl, rfl, rfl⟩ := R.ok.inj (show R.ok .ret env H = R.ok x env' H' from h)
    exact ⟨wp_ret ⟨σ, trivial, hA⟩, fun c' hc => by simp at hc⟩
  | rangeFunc f ps as bd => exact absurd (show R.no [9] = R.ok x env' H' from h) (by simp)
  | scope c => exact absurd (show R.no [9] = R.ok x env' H' from h) (by simp)
  | goto l => exact absurd (show R.no [9] = R.ok x env' H' from h) (by simp)
  | refuse s => exact absurd (show R.no [9] = R.ok x env' H' from h) (by simp)

theorem exec_ok (hπ : ∀ i, (π i).oneCell' = true) {K : Known} (hK : KnownOk π B P K) (hn : NamesOk P) (hm : P.follows .mixedOrders = true) : ∀ n, ExecOk π B P n (exec P K n)
  | 0 => fun c env H x env' H' h => absurd (show R.no [5] = R.ok x env' H' from h) (by simp)
  | n + 1 => step_ok hπ hK hn hm (exec_ok hπ hK hn hm n)

/-- A WHOLE CALL: where the second run answers, the model's call answers so. -/
theorem call_ok (hπ : ∀ i, (π i).oneCell' = true) {K : Known} (hK : KnownOk π B P K) (hn : NamesOk P) (hm : P.follows .mixedOrders = true) {n : Nat} {f : FuncId} {args : List AV} {H : Heap} {σ : Sg} {w : World} {xs : Array Value}
    (hS : SR π B σ H w) (hl : VRL π σ args xs.toList) (hf : (call P K n f args H).fine) : Goes P f xs w (CallR π B ⟨σ, w, H⟩ (call P K n f args H)) :=
  entry_ok hK hn (exec_ok hπ hK hn hm n) f args H hf σ w xs hS hl

/-- FROM NOTHING: a call whose arguments are numbers, texts, open ones. -/
theorem call_true (hπ : ∀ i, (π i).oneCell' = true) {K : Known} (hK : ∀ B, KnownOk π B P K) (hn : NamesOk P) (hm : P.follows .mixedOrders = true) {n : Nat} {f : FuncId} {args : List AV} {w : World} {xs : Array Value}
    (hb : ∀ fn, P.funcs[f]? = some fn → fn.body.isSome = true) (hl : VRL π (fun _ => none) args xs.toList) (hf : isTrue (call P K n f args Heap.emp) = true) : Calls P f xs w fun e w' => e = .returned (.bool true) ∧ Below w.heap.size w w' := by
  have hS : SR π w.heap.size (fun _ => none) Heap.emp w := by
    have hk : ∀ b o, Heap.emp.know b ≠ some o := fun b o h => by
      have := know_get h
      exact absurd (show none = some o from this) (by simp)
    exact ⟨⟨fun b o h => absurd h (hk b o), fun b b' o o' L L' h => absurd h (hk b o)⟩, fun _ _ => rfl, Nat.le_refl _⟩
  have hd : ∃ H', call P K n f args Heap.emp = .ret (.bool true) H' := by
    cases hc : call P K n f args Heap.emp with
    | ret v H' =>
      rw [hc] at hf
      unfold isTrue at hf
      split at hf
      · rename_i b H2 e
        obtain ⟨rfl, rfl⟩ := CR.ret.inj e
        exact ⟨_, by rw [hf]⟩
      · simp at hf
    | pan v H' => rw [hc] at hf; simp [isTrue] at hf
    | no l => rw [hc] at hf; simp [isTrue] at hf
  obtain ⟨H', hc⟩ := hd
  have hg := call_ok hπ (hK w.heap.size) hn hm (n := n) (f := f) hS hl (by rw [hc]; trivial)
  rw [hc] at hg
  have fin : ∀ e w', CallR π w.heap.size ⟨fun _ => none, w, Heap.emp⟩ (.ret (.bool true) H') e w' → e = .returned (.bool true) ∧ Below w.heap.size w w' := by
    rintro e w' ⟨σ', x, rfl, hv, hS', hE, hN⟩
    obtain rfl := VR.bool_inv hv
    exact ⟨rfl, hE.os, hE.tape, hE.output, hE.size, fun k hk => hE.frame k hk fun b o L h => absurd (know_get h) (by intro h; exact absurd (show none = some o from h) (by simp))⟩
  rcases hg with ⟨_, h2⟩ | ⟨y, w', h1, _⟩
  · exact h2.mono fin
  · exfalso
    -- a function with a body is entered
    unfold call entry at hc
    split at hc
    · rename_i fn hfn
      have hbd := hb fn hfn
      obtain ⟨body, hbody⟩ := Option.isSome_iff_exists.1 hbd
      rw [enter_run hn hfn hbody] at h1
      simp at h1
    · exact absurd (show CR.no [7] = _ from hc) (by simp)

end
end Go.Proofs.YtpoekljclapbfaaDoor.Fast
