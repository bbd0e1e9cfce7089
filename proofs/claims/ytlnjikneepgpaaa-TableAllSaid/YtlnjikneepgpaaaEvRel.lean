/- How a second run's values, tables and worlds stand for the model's: the relation, and that it is kept by reads, writes and what is made. -/
import Derived.Test.YtlnjikneepgpaaaEvPlain
import Derived.Laws.AppendOwn
import Derived.Laws.IdiomCopy
import Derived.Below
namespace Go.Proofs.Ytlnjikneepgpaaa.Fast

/-- what lies below the run's own blocks: how many blocks, and what they hold -/
structure Bd where
  n : Nat
  lo : Nat → Option Go.Obj
def topB (w : World) : Bd := ⟨w.heap.size, fun k => w.heap[k]?⟩

/-- where a block of the run lies: the model's block, a shift, how many cells there are -/
structure Loc where
  blk : Nat
  sh : Nat
  csz : Nat

abbrev Sg := Nat → Option Loc
def Sg.le (σ σ' : Sg) : Prop := ∀ b L, σ b = some L → σ' b = some L
theorem Sg.le_refl (σ : Sg) : Sg.le σ σ := fun _ _ h => h
theorem Sg.le_trans {a b c : Sg} (h : Sg.le a b) (h' : Sg.le b c) : Sg.le a c := fun x L hx => h' x L (h x L hx)

mutual
inductive VR (π : Nat → Value) (σ : Sg) : AV → Value → Prop
  | int (k n) : VR π σ (.int k n) (.int k n)
  | bool (b) : VR π σ (.bool b) (.bool b)
  | str (s : ByteArray) : VR π σ (.str s.data.toList.length (bitsOf s.data.toList)) (.string s)
  | ptr (b off L) : σ b = some L → VR π σ (.ptr b off) (.pointer (some ⟨L.blk, L.sh + off, none⟩))
  | nilptr : VR π σ .nilptr (.pointer none)
  | slice (b off n cap L) : σ b = some L → VR π σ (.slice b off n cap 0) (.slice (some ⟨L.blk, L.sh + off, none⟩) n cap)
  | sliceg (b off n cap g L cap') : σ b = some L → n ≤ cap' → cap ≤ cap' → L.sh + off + cap' * (g + 1) ≤ L.csz → VR π σ (.slice b off n cap (g + 1)) (.slice (some ⟨L.blk, L.sh + off, none⟩) n cap')
  | eslice (a cap) : VR π σ .eslice (.slice (some a) 0 cap)
  | nilslice : VR π σ .nilslice (.slice none 0 0)
  | map (b L) : σ b = some L → VR π σ (.map b) (.map (some L.blk))
  | nilmap : VR π σ .nilmap (.map none)
  | func (fn l m xs ys) : VRL π σ l xs.toList → VRL π σ m ys.toList → VR π σ (.func fn l m) (.func fn xs ys)
  | nilfunc : VR π σ .nilfunc .nilFunc
  | iface (t v x) : VR π σ v x → VR π σ (.iface t v) (.iface t x)
  | niliface : VR π σ .niliface .nilIface
  | agg (l xs) : VRL π σ l xs.toList → VR π σ (.agg l) (.agg xs)
  | tuple (l xs) : VRL π σ l xs.toList → VR π σ (.tuple l) (.tuple xs)
  | sym (i) : VR π σ (.sym i) (π i)
  | le (c n) : n ≤ c → VR π σ (.le c) (.int .i64 n)
  | ge (c n) : c ≤ n → VR π σ (.ge c) (.int .i64 n)
  | notin (l) (s : ByteArray) : (∀ q ∈ l, ¬ (q.1 = s.data.toList.length ∧ q.2 = bitsOf s.data.toList)) → s.size ≤ 4611686018427387904 → VR π σ (.notin l) (.string s)
inductive VRL (π : Nat → Value) (σ : Sg) : List AV → List Value → Prop
  | nil : VRL π σ [] []
  | cons (v x l xs) : VR π σ v x → VRL π σ l xs → VRL π σ (v :: l) (x :: xs)
end

section
variable {π : Nat → Value} {σ σ' : Sg}

mutual
theorem VR.mono (h : Sg.le σ σ') : ∀ {v x}, VR π σ v x → VR π σ' v x
  | _, _, .int k n => .int k n
  | _, _, .bool b => .bool b
  | _, _, .str s => .str s
  | _, _, .ptr b off L e => .ptr b off L (h _ _ e)
  | _, _, .nilptr => .nilptr
  | _, _, .slice b off n cap L e => .slice b off n cap L (h _ _ e)
  | _, _, .sliceg b off n cap g L cap' e a b' c => .sliceg b off n cap g L cap' (h _ _ e) a b' c
  | _, _, .eslice a c => .eslice a c
  | _, _, .nilslice => .nilslice
  | _, _, .map b L e => .map b L (h _ _ e)
  | _, _, .nilmap => .nilmap
  | _, _, .func fn l m xs ys a b => .func fn l m xs ys (VRL.mono h a) (VRL.mono h b)
  | _, _, .nilfunc => .nilfunc
  | _, _, .iface t v x a => .iface t v x (VR.mono h a)
  | _, _, .niliface => .niliface
  | _, _, .agg l xs a => .agg l xs (VRL.mono h a)
  | _, _, .tuple l xs a => .tuple l xs (VRL.mono h a)
  | _, _, .sym i => .sym i
  | _, _, .le c n a => .le c n a
  | _, _, .ge c n a => .ge c n a
  | _, _, .notin l s a b => .notin l s a b
theorem VRL.mono (h : Sg.le σ σ') : ∀ {l xs}, VRL π σ l xs → VRL π σ' l xs
  | _, _, .nil => .nil
  | _, _, .cons v x l xs a b => .cons v x l xs (VR.mono h a) (VRL.mono h b)
end

theorem VRL.length : ∀ {l : List AV} {xs : List Value}, VRL π σ l xs → xs.length = l.length
  | _, _, .nil => rfl
  | _, _, .cons _ _ _ _ _ b => by simp [VRL.length b]

theorem VRL.get : ∀ {l : List AV} {xs : List Value}, VRL π σ l xs → ∀ (i : Nat) v, l[i]? = some v → ∃ x, xs[i]? = some x ∧ VR π σ v x
  | _, _, .nil, i, v, h => by simp at h
  | _, _, .cons w y l xs a b, i, v, h => by
    cases i with
    | zero => exact ⟨y, rfl, by simp at h; exact h ▸ a⟩
    | succ i => exact VRL.get b i v (by simpa using h)

theorem VRL.of : ∀ (l : List AV) (xs : List Value), xs.length = l.length → (∀ (i : Nat) v, l[i]? = some v → ∃ x, xs[i]? = some x ∧ VR π σ v x) → VRL π σ l xs
  | [], [], _, _ => .nil
  | [], _ :: _, h, _ => by simp at h
  | _ :: _, [], h, _ => by simp at h
  | v :: l, x :: xs, h, hg => by
    obtain ⟨y, e, hy⟩ := hg 0 v rfl
    simp at e
    exact .cons v x l xs (e ▸ hy) (VRL.of l xs (by simpa using h) fun i u hu => hg (i + 1) u hu)

theorem VRL.append : ∀ {l : List AV} {xs : List Value} {m : List AV} {ys : List Value}, VRL π σ l xs → VRL π σ m ys → VRL π σ (l ++ m) (xs ++ ys)
  | _, _, _, _, .nil, h => h
  | _, _, _, _, .cons v x l xs a b, h => .cons v x _ _ a (VRL.append b h)
end

/-- cells, from a shift on -/
def CellsR (π : Nat → Value) (σ : Sg) (l : List AV) (sh : Nat) (C : Array Value) : Prop :=
  sh + l.length ≤ C.size ∧ ∀ (i : Nat) v, l[i]? = some v → ∃ x, C[sh + i]? = some x ∧ VR π σ v x

def EntR (π : Nat → Value) (σ : Sg) (e : Ent) (m : MapEntry) : Prop := VR π σ e.key m.key ∧ VR π σ e.val m.val ∧ e.born = m.born

def EntsR (π : Nat → Value) (σ : Sg) (es : List Ent) (ms : List MapEntry) : Prop :=
  es.length = ms.length ∧ ∀ (i : Nat) e m, es[i]? = some e → ms[i]? = some m → EntR π σ e m

/-- what a row's code says of its block -/
def ElemR (el : Nat) (e : TypeId) (L : Loc) (n : Nat) : Prop := (1 ≤ el % 4 → e = el / 4) ∧ (2 ≤ el % 4 → L.sh = 0) ∧ (el % 4 = 3 → L.csz = n)

/-- what is frozen of a block -/
def FrzR (fr : Nat × Nat) (L : Loc) (lo hi sz : Nat) : Prop := (∀ j, L.sh ≤ j → j < sz → fr.1 ≤ j → j < fr.2 → L.sh + lo ≤ j ∧ j < L.sh + hi) ∧ fr.1 ≤ fr.2 ∧ (fr.1 < fr.2 → fr.2 ≤ L.sh + hi)
theorem FrzR.no (L : Loc) (lo hi sz : Nat) : FrzR (0, 0) L lo hi sz := ⟨fun j _ _ _ h => absurd h (by simp), Nat.le_refl _, fun h => absurd h (by simp)⟩

def ObjR (π : Nat → Value) (σ : Sg) (o : Obj) (L : Loc) (w : World) : Prop :=
  match o with
  | .row l el lo hi => ∃ C e fr, w.heap[L.blk]? = some (.cells C e fr) ∧ C.size = L.csz ∧ CellsR π σ l L.sh C ∧ FrzR fr L lo hi C.size ∧ ElemR el e L l.length
  | .map es clock => ∃ E, w.heap[L.blk]? = some (.map E clock) ∧ EntsR π σ es E.toList
  | .siter n bits pos => L.sh = 0 ∧ ∃ s : ByteArray, w.heap[L.blk]? = some (.stringIter s pos) ∧ n = s.data.toList.length ∧ bits = bitsOf s.data.toList
  | .dead => False

abbrev Know := Nat → Option Obj

/-- what the run knows of its blocks -/
noncomputable def Heap.know (H : Heap) : Know := fun b =>
  match H.get b with
  | some .dead => none
  | r => r

theorem know_get {H : Heap} {b : Nat} {o : Obj} (h : H.know b = some o) : H.get b = some o := by
  unfold Heap.know at h
  split at h
  · exact absurd h (by simp)
  · exact h

theorem know_of_get {H : Heap} {b : Nat} {o : Obj} (h : H.get b = some o) (hd : o ≠ .dead) : H.know b = some o := by
  unfold Heap.know
  rw [h]
  cases o <;> first | rfl | exact absurd rfl hd

structure Rel (π : Nat → Value) (B : Bd) (σ : Sg) (K : Know) (w : World) : Prop where
  obj : ∀ b o, K b = some o → ∃ L, σ b = some L ∧ B.n ≤ L.blk ∧ ObjR π σ o L w
  inj : ∀ b b' o o' L L', K b = some o → K b' = some o' → σ b = some L → σ b' = some L' → L.blk = L'.blk → b = b'
  low : ∀ k, k < B.n → w.heap[k]? = B.lo k

theorem ObjR.lt {π : Nat → Value} {σ : Sg} {o : Obj} {L : Loc} {w : World} (h : ObjR π σ o L w) : L.blk < w.heap.size := by
  have key : ∀ {x}, w.heap[L.blk]? = some x → L.blk < w.heap.size := fun hx => by
    rcases Nat.lt_or_ge L.blk w.heap.size with h' | h'
    · exact h'
    · rw [Array.getElem?_eq_none h'] at hx; simp at hx
  cases o with
  | row l e lo hi => obtain ⟨_, _, _, h, _⟩ := h; exact key h
  | map es c => obtain ⟨_, h, _⟩ := h; exact key h
  | siter n b p => obtain ⟨_, _, h, _⟩ := h; exact key h
  | dead => exact h.elim

/-- the run's state stands for a world -/
structure SR (π : Nat → Value) (B : Bd) (σ : Sg) (H : Heap) (w : World) : Prop where
  rel : Rel π B σ H.know w
  dom : ∀ b, H.next ≤ b → σ b = none
  base : B.n ≤ w.heap.size

/-- what has changed from one state to another -/
structure Ext (σ : Sg) (K : Know) (w : World) (σ' : Sg) (K' : Know) (w' : World) : Prop where
  sg : Sg.le σ σ'
  os : w'.os = w.os
  tape : w'.tape = w.tape
  output : w'.output = w.output
  size : w.heap.size ≤ w'.heap.size
  frame : ∀ k, k < w.heap.size → (∀ b o L, K b = some o → σ b = some L → L.blk ≠ k) → w'.heap[k]? = w.heap[k]?
  img : ∀ b' o' L', K' b' = some o' → σ' b' = some L' → L'.blk < w.heap.size → ∃ b o L, K b = some o ∧ σ b = some L ∧ L.blk = L'.blk

theorem Ext.refl (σ : Sg) (K : Know) (w : World) : Ext σ K w σ K w :=
  ⟨Sg.le_refl σ, rfl, rfl, rfl, Nat.le_refl _, fun _ _ _ => rfl, fun b o L h1 h2 _ => ⟨b, o, L, h1, h2, rfl⟩⟩

theorem Ext.trans {σ σ1 σ2 : Sg} {K K1 K2 : Know} {w w1 w2 : World} (a : Ext σ K w σ1 K1 w1) (b : Ext σ1 K1 w1 σ2 K2 w2) : Ext σ K w σ2 K2 w2 := by
  refine ⟨Sg.le_trans a.sg b.sg, b.os.trans a.os, b.tape.trans a.tape, b.output.trans a.output, Nat.le_trans a.size b.size, fun k hk hn => ?_, fun b' o' L' h1 h2 h3 => ?_⟩
  · rw [b.frame k (Nat.lt_of_lt_of_le hk a.size) (fun b1 o1 L1 e1 e2 e3 => ?_), a.frame k hk hn]
    obtain ⟨b0, o0, L0, f1, f2, f3⟩ := a.img b1 o1 L1 e1 e2 (e3 ▸ hk)
    exact hn b0 o0 L0 f1 f2 (f3.trans e3)
  · obtain ⟨b1, o1, L1, e1, e2, e3⟩ := b.img b' o' L' h1 h2 (Nat.lt_of_lt_of_le h3 a.size)
    obtain ⟨b0, o0, L0, f1, f2, f3⟩ := a.img b1 o1 L1 e1 e2 (e3 ▸ h3)
    exact ⟨b0, o0, L0, f1, f2, f3.trans e3⟩

/-- numbers of blocks: those that were are kept; none of them becomes known anew -/
structure Nx (σ : Sg) (H : Heap) (σ' : Sg) (H' : Heap) : Prop where
  nx : H.next ≤ H'.next
  keep : ∀ b, b < H.next → σ' b = σ b
  kn : ∀ b o, b < H.next → H'.know b = some o → ∃ o', H.know b = some o'

theorem Nx.refl (σ : Sg) (H : Heap) : Nx σ H σ H := ⟨Nat.le_refl _, fun _ _ => rfl, fun _ o _ h => ⟨o, h⟩⟩

theorem Nx.trans {σ σ1 σ2 : Sg} {H H1 H2 : Heap} (a : Nx σ H σ1 H1) (b : Nx σ1 H1 σ2 H2) : Nx σ H σ2 H2 :=
  ⟨Nat.le_trans a.nx b.nx, fun c h => (b.keep c (Nat.lt_of_lt_of_le h a.nx)).trans (a.keep c h), fun c o h h2 => let ⟨o1, h3⟩ := b.kn c o (Nat.lt_of_lt_of_le h a.nx) h2; a.kn c o1 h h3⟩

def EnvR (π : Nat → Value) (σ : Sg) (env : Env) (a : Act) : Prop := ∀ (t : Nat) v, env.get t = some v → ∃ x, a.tmps[t]? = some x ∧ VR π σ v x

theorem EnvR.mono {π : Nat → Value} {σ σ' : Sg} {env : Env} {a : Act} (h : EnvR π σ env a) (hs : Sg.le σ σ') : EnvR π σ' env a := fun t v e => by
  obtain ⟨x, e1, e2⟩ := h t v e
  exact ⟨x, e1, e2.mono hs⟩

section
variable {π : Nat → Value} {σ : Sg}

theorem ofS_VR {v : Value} {x : AV} (h : ofS v = some x) : VR π σ x v := by
  unfold ofS at h
  split at h <;> first
    | (obtain rfl := Option.some.inj h; constructor; done)
    | (obtain rfl := Option.some.inj h; exact .func _ _ _ _ _ .nil .nil)
    | (exact absurd h (by simp))

theorem mapO_VRL : ∀ (l : List Value) {m : List AV}, mapO ofS l = some m → VRL π σ m l
  | [], m, h => by obtain rfl := Option.some.inj h; exact .nil
  | x :: t, m, h => by
    obtain ⟨b, h1, h2⟩ := obind_some (show obind (ofS x) (fun b => obind (mapO ofS t) fun l => some (b :: l)) = some m from h)
    obtain ⟨l, h3, h4⟩ := obind_some h2
    obtain rfl := Option.some.inj h4
    exact .cons _ _ _ _ (ofS_VR h1) (mapO_VRL t h3)

theorem ofV_VR {v : Value} {x : AV} (h : ofV v = some x) : VR π σ x v := by
  unfold ofV at h
  split at h
  · obtain ⟨l, h1, h2⟩ := obind_some h
    obtain rfl := Option.some.inj h2
    exact .agg _ _ (mapO_VRL _ h1)
  · obtain ⟨l, h1, h2⟩ := obind_some h
    obtain rfl := Option.some.inj h2
    exact .iface _ _ _ (ofS_VR h1)
  · obtain rfl := Option.some.inj h
    exact .tuple _ _ .nil
  · exact ofS_VR h

theorem gop_VR {env : Env} {a : Act} (he : EnvR π σ env a) {x : Operand} {v : AV} (h : (gop x).run env = some v) : VR π σ v (a.eval x) := by
  cases x with
  | tmp t =>
    obtain ⟨y, h1, h2⟩ := he t v h
    have : a.eval (.tmp t) = y := by
      show a.tmps.getD t undef = y
      rw [Array.getD_eq_getD_getElem?, h1]; rfl
    rw [this]; exact h2
  | const u => exact ofV_VR (show ofV u = some v from h)
  | func f => obtain rfl := Option.some.inj (show some _ = some v from h); exact .func _ _ _ _ _ .nil .nil
  | global g => exact absurd (show none = some v from h) (by simp)

theorem gops_VR {env : Env} {a : Act} (he : EnvR π σ env a) : ∀ {l : List Operand} {m : List AV}, (gops l).run env = some m → VRL π σ m (l.map a.eval)
  | [], m, h => by obtain rfl := Option.some.inj (show some [] = some m from h); exact .nil
  | x :: t, m, h => by
    obtain ⟨v, h1, h2⟩ := obind_some (show obind ((gop x).run env) (fun v => obind ((gops t).run env) fun l => some (v :: l)) = some m from h)
    obtain ⟨l, h3, h4⟩ := obind_some h2
    obtain rfl := Option.some.inj h4
    exact .cons _ _ _ _ (gop_VR he h1) (gops_VR he h3)

/-- the cells of a value -/
theorem VR.cells (hπ : ∀ i, (π i).oneCell' = true) {v : AV} {x : Value} (h : VR π σ v x) : VRL π σ v.cells x.cells.toList := by
  cases h with
  | agg l xs a => exact a
  | sym i =>
    have h1 : (π i).cells = #[π i] := by
      have := hπ i
      cases hc : π i <;> rw [hc] at this <;> first | rfl | simp [Value.oneCell'] at this
    rw [h1]
    exact .cons _ _ _ _ (.sym i) .nil
  | _ => exact .cons _ _ _ _ (by constructor <;> assumption) .nil

theorem VR.oneCell (hπ : ∀ i, (π i).oneCell' = true) {v : AV} {x : Value} (h : VR π σ v x) (hs : scalar v = true) : x.oneCell' = true := by
  cases h <;> first | rfl | exact hπ _ | simp [scalar] at hs
end

theorem allb_mem : ∀ {l : List AV}, allb l = true → ∀ v ∈ l, scalar v = true
  | [], _, _, h => by simp at h
  | a :: t, h, v, hv => by
    obtain ⟨h1, h2⟩ := band_true (show band (scalar a) (allb t) = true from h)
    cases hv with
    | head => exact h1
    | tail _ hm => exact allb_mem h2 v hm

section
variable {π : Nat → Value} {σ σ' : Sg}

theorem CellsR.mono {l : List AV} {sh : Nat} {C : Array Value} (h : CellsR π σ l sh C) (hs : Sg.le σ σ') : CellsR π σ' l sh C :=
  ⟨h.1, fun i v e => let ⟨x, e1, e2⟩ := h.2 i v e; ⟨x, e1, e2.mono hs⟩⟩

theorem EntsR.mono {es : List Ent} {ms : List MapEntry} (h : EntsR π σ es ms) (hs : Sg.le σ σ') : EntsR π σ' es ms :=
  ⟨h.1, fun i e m h1 h2 => let ⟨a, b, c⟩ := h.2 i e m h1 h2; ⟨a.mono hs, b.mono hs, c⟩⟩

theorem ObjR.mono {o : Obj} {L : Loc} {w : World} (h : ObjR π σ o L w) (hs : Sg.le σ σ') : ObjR π σ' o L w := by
  cases o with
  | row l e lo hi => obtain ⟨C, e', fr, h1, h2, h3, h4⟩ := h; exact ⟨C, e', fr, h1, h2, h3.mono hs, h4⟩
  | map es c => obtain ⟨E, h1, h2⟩ := h; exact ⟨E, h1, h2.mono hs⟩
  | siter n b p => exact h
  | dead => exact h.elim

theorem ObjR.same {o : Obj} {L : Loc} {w w' : World} (h : ObjR π σ o L w) (e : w'.heap[L.blk]? = w.heap[L.blk]?) : ObjR π σ o L w' := by
  cases o with
  | row l e' lo hi => obtain ⟨C, e', fr, h1, h2⟩ := h; exact ⟨C, e', fr, e.trans h1, h2⟩
  | map es c => obtain ⟨E, h1, h2⟩ := h; exact ⟨E, e.trans h1, h2⟩
  | siter n b p => obtain ⟨h0, s, h1, h2⟩ := h; exact ⟨h0, s, e.trans h1, h2⟩
  | dead => exact h.elim

/-- a world in which the heap is the same -/
theorem Rel.same {B : Bd} {K : Know} {w w' : World} (h : Rel π B σ K w) (e : w'.heap = w.heap) : Rel π B σ K w' :=
  ⟨fun b o hb => let ⟨L, h1, h2, h3⟩ := h.obj b o hb; ⟨L, h1, h2, h3.same (by rw [e])⟩, h.inj, fun k hk => (by rw [e]; exact h.low k hk)⟩

/-- what is known, read -/
theorem Rel.row {B : Bd} {H : Heap} {w : World} (h : SR π B σ H w) {b : Nat} {l : List AV} {e lo hi : Nat} (hb : H.get b = some (.row l e lo hi)) :
    ∃ L C e' fr, σ b = some L ∧ B.n ≤ L.blk ∧ w.heap[L.blk]? = some (.cells C e' fr) ∧ C.size = L.csz ∧ CellsR π σ l L.sh C ∧ FrzR fr L lo hi C.size ∧ ElemR e e' L l.length := by
  obtain ⟨L, h1, h2, C, e', fr, h3, h4, h5, h6⟩ := h.rel.obj b _ (know_of_get hb (by simp))
  exact ⟨L, C, e', fr, h1, h2, h3, h4, h5, h6⟩

theorem cell_of {w : World} {blk off : Nat} {C : Array Value} {e : TypeId} {fr : Nat × Nat} (h : w.heap[blk]? = some (.cells C e fr)) : w.cell? ⟨blk, off, none⟩ = C[off]? := by
  simp [World.cell?, h]

theorem add_addr (b o n : Nat) : (⟨b, o, none⟩ : Addr).add n = ⟨b, o + n, none⟩ := by unfold Addr.add; split <;> simp_all

theorem rd_run {B : Bd} {H : Heap} {w : World} (hS : SR π B σ H w) {b off n : Nat} {m : List AV} (h : rd H b off n = some m) {L : Loc} (hL : σ b = some L) :
    ∃ xs : List Value, xs.length = n ∧ VRL π σ m xs ∧ ∀ j x, xs[j]? = some x → w.cell? ((⟨L.blk, L.sh + off, none⟩ : Addr).add j) = some x := by
  obtain ⟨o, h1, h2⟩ := obind_some (show obind (H.get b) (rdRow off n) = some m from h)
  cases o with
  | row l e lo hi =>
    obtain ⟨L', C, e', fr, g1, _, g3, _, g5, _⟩ := Rel.row hS h1
    obtain rfl : L' = L := by rw [hL] at g1; exact (Option.some.inj g1).symm
    obtain ⟨e1, e2⟩ := sub_some (show sub l off n = some m from h2)
    refine ⟨(List.range n).map (fun i => C.getD (L'.sh + off + i) undef), by simp, VRL.of _ _ (by simp [e1]) fun i v hv => ?_, fun j x hx => ?_⟩
    · have hi : i < n := by
        rcases Nat.lt_or_ge i n with h' | h'
        · exact h'
        · rw [List.getElem?_eq_none (by omega)] at hv; simp at hv
      obtain ⟨v', f1, f2⟩ := e2 i hi
      obtain rfl : v = v' := by rw [f2] at hv; exact (Option.some.inj hv).symm
      obtain ⟨x, k1, k2⟩ := g5.2 _ _ f1
      exact ⟨x, by simp [hi, Array.getD_eq_getD_getElem?, Nat.add_assoc, k1], k2⟩
    · have hj : j < n := by
        rcases Nat.lt_or_ge j n with h' | h'
        · exact h'
        · rw [List.getElem?_eq_none (by simp; omega)] at hx; simp at hx
      obtain ⟨v', f1, f2⟩ := e2 j hj
      obtain ⟨y, k1, k2⟩ := g5.2 _ _ f1
      simp [hj, Array.getD_eq_getD_getElem?, Nat.add_assoc, k1] at hx
      rw [add_addr, cell_of g3, Nat.add_assoc, k1, hx]
  | _ => exact absurd (show none = some m from h2) (by simp)

theorem rd1_run {B : Bd} {H : Heap} {w : World} (hS : SR π B σ H w) {b off : Nat} {v : AV} (h : rd1 H b off = some v) {L : Loc} (hL : σ b = some L) :
    ∃ x, VR π σ v x ∧ w.cell? ⟨L.blk, L.sh + off, none⟩ = some x := by
  obtain ⟨o, h1, h2⟩ := obind_some (show obind (H.get b) (rd1Row off) = some v from h)
  cases o with
  | row l e lo hi =>
    obtain ⟨L', C, e', fr, g1, _, g3, _, g5, _⟩ := Rel.row hS h1
    obtain rfl : L' = L := by rw [hL] at g1; exact (Option.some.inj g1).symm
    have h3 : l[off]? = some v := by rw [← nth_eq]; exact h2
    obtain ⟨x, k1, k2⟩ := g5.2 _ _ h3
    exact ⟨x, k2, by rw [cell_of g3, k1]⟩
  | _ => exact absurd (show none = some v from h2) (by simp)

/-- a new block -/
theorem SR.new {B : Bd} {H : Heap} {w w' : World} (hS : SR π B σ H w) (o : Obj) (L : Loc) (hb : L.blk = w.heap.size)
    (hh : ∀ k, k < w.heap.size → w'.heap[k]? = w.heap[k]?) (hsz : w.heap.size ≤ w'.heap.size) (hos : w'.os = w.os ∧ w'.tape = w.tape ∧ w'.output = w.output)
    (hO : ∀ σ', Sg.le σ σ' → ObjR π σ' o L w') :
    ∃ σ', σ' H.next = some L ∧ SR π B σ' (H.new o) w' ∧ Ext σ H.know w σ' (H.new o).know w' ∧ Nx σ H σ' (H.new o) := by
  have hB := hS.base
  let σ' : Sg := fun b => if b = H.next then some L else σ b
  have hnext : σ' H.next = some L := by simp [σ']
  have hother : ∀ b, b ≠ H.next → σ' b = σ b := fun b hb => by simp [σ', hb]
  have hle : Sg.le σ σ' := fun b L' h => by
    have : b ≠ H.next := fun e => by rw [e, hS.dom _ (Nat.le_refl _)] at h; simp at h
    rw [hother b this]; exact h
  have hk : ∀ b u, (H.new o).know b = some u → (b = H.next ∧ u = o) ∨ (b ≠ H.next ∧ H.know b = some u) := fun b u h => by
    have hd : u ≠ .dead := fun e => by subst e; unfold Heap.know at h; split at h <;> simp_all
    rcases Heap.get_new (know_get h) with h | ⟨h1, h2⟩
    · exact .inl h
    · exact .inr ⟨h1, know_of_get h2 hd⟩
  have old : ∀ b u, H.know b = some u → ∃ L', σ b = some L' ∧ B.n ≤ L'.blk ∧ L'.blk < w.heap.size ∧ ObjR π σ' u L' w' := fun b u h => by
    obtain ⟨L', h1, h2, h3⟩ := hS.rel.obj b u h
    exact ⟨L', h1, h2, h3.lt, (h3.mono hle).same (hh _ h3.lt)⟩
  refine ⟨σ', hnext, ⟨⟨fun b u h => ?_, fun b b' u u' L1 L2 h1 h2 h3 h4 h5 => ?_, fun k hk => (hh k (Nat.lt_of_lt_of_le hk hB)).trans (hS.rel.low k hk)⟩, fun b hb => ?_, Nat.le_trans hB hsz⟩, ⟨hle, hos.1, hos.2.1, hos.2.2, hsz, fun k hk _ => hh k hk, fun b u L' h1 h2 h3 => ?_⟩, ⟨Nat.le_succ _, fun b hb => hother b (Nat.ne_of_lt hb), fun b u hb h => ?_⟩⟩
  · rcases hk b u h with ⟨rfl, rfl⟩ | ⟨h1, h2⟩
    · exact ⟨L, hnext, by omega, hO σ' hle⟩
    · obtain ⟨L', f1, f2, f3, f4⟩ := old b u h2
      exact ⟨L', by rw [hother b h1]; exact f1, f2, f4⟩
  · rcases hk b u h1 with ⟨rfl, rfl⟩ | ⟨g1, g2⟩ <;> rcases hk b' u' h2 with ⟨rfl, rfl⟩ | ⟨g3, g4⟩
    · rfl
    · obtain ⟨L', f1, f2, f3, f4⟩ := old b' u' g4
      rw [hnext] at h3; rw [hother b' g3, f1] at h4
      obtain rfl := Option.some.inj h3; obtain rfl := Option.some.inj h4
      omega
    · obtain ⟨L', f1, f2, f3, f4⟩ := old b u g2
      rw [hnext] at h4; rw [hother b g1, f1] at h3
      obtain rfl := Option.some.inj h3; obtain rfl := Option.some.inj h4
      omega
    · rw [hother b g1] at h3; rw [hother b' g3] at h4
      exact hS.rel.inj b b' u u' L1 L2 g2 g4 h3 h4 h5
  · have hb : H.next + 1 ≤ b := hb
    rw [hother b (by omega)]; exact hS.dom b (by omega)
  · rcases hk b u h1 with ⟨rfl, rfl⟩ | ⟨g1, g2⟩
    · rw [hnext] at h2; obtain rfl := Option.some.inj h2; omega
    · rw [hother b g1] at h2; exact ⟨b, u, L', g2, h2, rfl⟩
  · rcases hk b u h with ⟨rfl, rfl⟩ | ⟨g1, g2⟩
    · exact absurd hb (Nat.lt_irrefl _)
    · exact ⟨u, g2⟩

/-- a block known otherwise -/
theorem SR.put {B : Bd} {H : Heap} {w w' : World} (hS : SR π B σ H w) (b : Nat) (o u : Obj) (L : Loc) (hu : H.know b = some u) (hL : σ b = some L)
    (hh : ∀ k, k ≠ L.blk → w'.heap[k]? = w.heap[k]?) (hsz : w'.heap.size = w.heap.size) (hos : w'.os = w.os ∧ w'.tape = w.tape ∧ w'.output = w.output) (hO : ObjR π σ o L w') :
    SR π B σ (H.put b o) w' ∧ Ext σ H.know w σ (H.put b o).know w' ∧ Nx σ H σ (H.put b o) := by
  have hk : ∀ c v, (H.put b o).know c = some v → (c = b ∧ v = o) ∨ (c ≠ b ∧ H.know c = some v) := fun c v h => by
    have hd : v ≠ .dead := fun e => by subst e; unfold Heap.know at h; split at h <;> simp_all
    rcases Heap.get_put (know_get h) with h | ⟨h1, h2⟩
    · exact .inl h
    · exact .inr ⟨h1, know_of_get h2 hd⟩
  have back : ∀ c v, (H.put b o).know c = some v → ∃ v', H.know c = some v' := fun c v h => by
    rcases hk c v h with ⟨rfl, rfl⟩ | ⟨h1, h2⟩
    · exact ⟨u, hu⟩
    · exact ⟨v, h2⟩
  have hlo : B.n ≤ L.blk := by
    obtain ⟨L', f1, f2, _⟩ := hS.rel.obj b u hu
    rw [hL] at f1; obtain rfl := Option.some.inj f1
    exact f2
  refine ⟨⟨⟨fun c v h => ?_, fun c c' v v' L1 L2 h1 h2 h3 h4 h5 => ?_, fun k hk => (hh k (by omega)).trans (hS.rel.low k hk)⟩, fun c hc => hS.dom c hc, hsz.symm ▸ hS.base⟩, ⟨Sg.le_refl _, hos.1, hos.2.1, hos.2.2, Nat.le_of_eq hsz.symm, fun k _ hn => ?_, fun c v L' h1 h2 _ => ?_⟩, ⟨Nat.le_refl _, fun _ _ => rfl, fun c v _ h => back c v h⟩⟩
  · rcases hk c v h with ⟨rfl, rfl⟩ | ⟨h1, h2⟩
    · obtain ⟨L', f1, f2, f3⟩ := hS.rel.obj c u hu
      rw [hL] at f1; obtain rfl := Option.some.inj f1
      exact ⟨L, hL, f2, hO⟩
    · obtain ⟨L', f1, f2, f3⟩ := hS.rel.obj c v h2
      exact ⟨L', f1, f2, f3.same (hh _ fun e => h1 (hS.rel.inj c b v u L' L h2 hu f1 hL e))⟩
  · obtain ⟨u1, g1⟩ := back c v h1
    obtain ⟨u2, g2⟩ := back c' v' h2
    exact hS.rel.inj c c' u1 u2 L1 L2 g1 g2 h3 h4 h5
  · exact hh k fun e => hn b u L hu hL e.symm
  · obtain ⟨u1, g1⟩ := back c v h1
    exact ⟨c, u1, L', g1, h2, rfl⟩

theorem setCells_heap (b : Nat) : ∀ (vs : List Value) (o : Nat) (w : World) (C : Array Value) (e : TypeId) (fr : Nat × Nat), w.heap[b]? = some (.cells C e fr) → o + vs.length ≤ C.size →
    ∃ C', (w.setCells b o vs).heap[b]? = some (.cells C' e fr) ∧ C'.size = C.size ∧ ∀ j, C'[j]? = if o ≤ j ∧ j < o + vs.length then vs[j - o]? else C[j]?
  | [], o, w, C, e, fr, h, _ => ⟨C, h, rfl, fun j => by simp; intro h1 h2; omega⟩
  | v :: r, o, w, C, e, fr, h, hl => by
    have h1 : (w.setCell ⟨b, o, none⟩ v).heap[b]? = some (.cells (C.setIfInBounds o v) e fr) := by simp [World.setCell, Array.getElem?_modify, h]
    obtain ⟨C', e1, e2, e3⟩ := setCells_heap b r (o + 1) _ _ e fr h1 (by simp at hl ⊢; omega)
    refine ⟨C', e1, by simpa using e2, fun j => ?_⟩
    rw [e3 j]
    by_cases hj : o + 1 ≤ j ∧ j < o + 1 + r.length
    · rw [if_pos hj, if_pos (by simp; omega), show j - o = (j - (o + 1)) + 1 by omega]; simp
    · rw [if_neg hj]
      by_cases hjo : j = o
      · subst hjo
        rw [if_pos (by simp)]
        have : j < C.size := by simp at hl; omega
        simp [this]
      · rw [if_neg (by simp; omega)]
        simp [Ne.symm hjo]

theorem setCells_other (b : Nat) : ∀ (vs : List Value) (o : Nat) (w : World) (k : Nat), k ≠ b → (w.setCells b o vs).heap[k]? = w.heap[k]?
  | [], _, _, _, _ => rfl
  | v :: r, o, w, k, h => by
    rw [World.setCells, setCells_other b r (o + 1) _ k h]
    simp [World.setCell, Array.getElem?_modify, Ne.symm h]

theorem setCells_rest (b : Nat) : ∀ (vs : List Value) (o : Nat) (w : World), (w.setCells b o vs).heap.size = w.heap.size ∧ (w.setCells b o vs).os = w.os ∧ (w.setCells b o vs).tape = w.tape ∧ (w.setCells b o vs).output = w.output
  | [], _, _ => ⟨rfl, rfl, rfl, rfl⟩
  | v :: r, o, w => by
    obtain ⟨h1, h2, h3, h4⟩ := setCells_rest b r (o + 1) (w.setCell ⟨b, o, none⟩ v)
    exact ⟨h1.trans (by simp), h2, h3, h4⟩

theorem apart_true {off n lo hi j : Nat} (h : apart off n lo hi = true) (h1 : off ≤ j) (h2 : j < off + n) : ¬ (lo ≤ j ∧ j < hi) := by
  rcases bor_true h with h | h
  · have := Nat.le_of_ble_eq_true h; omega
  · rcases bor_true h with h | h
    · have : off + n ≤ lo := Nat.le_of_ble_eq_true h; omega
    · have := Nat.le_of_ble_eq_true h; omega

/-- cells written over known ones -/
theorem wr_run {B : Bd} {H H' : Heap} {w : World} (P : Program) (hS : SR π B σ H w) {b off : Nat} {new : List AV} (h : wr H b off new = some H') {L : Loc} (hL : σ b = some L)
    {xs : List Value} (hx : VRL π σ new xs) (h1 : ∀ x ∈ xs, x.oneCell' = true) :
    ∃ w', (storeCells ⟨L.blk, L.sh + off, none⟩ xs).run P w = .ok () w' ∧ SR π B σ H' w' ∧ Ext σ H.know w σ H'.know w' ∧ Nx σ H σ H' := by
  obtain ⟨o, g1, g2⟩ := obind_some (show obind (H.get b) (wrRow H b off new) = some H' from h)
  cases o with
  | row l e lo hi =>
    obtain ⟨g3, g4⟩ := oif_some (show oif (apart off (len new) lo hi) (obind (over new l off) fun l' => some (H.put b (.row l' e lo hi))) = some H' from g2)
    obtain ⟨l', g5, g6⟩ := obind_some g4
    obtain rfl := Option.some.inj g6
    obtain ⟨L', C, e', fr, f1, _, f3, f4, f5, f6, f7⟩ := Rel.row hS g1
    obtain rfl : L' = L := by rw [hL] at f1; exact (Option.some.inj f1).symm
    obtain ⟨k1, k2, k3⟩ := over_some new l g5
    rw [len_eq] at g3
    have hlx := hx.length
    have hsz := f5.1
    refine ⟨w.setCells L'.blk (L'.sh + off) xs, ?_, ?_, ?_, ?_⟩
    · have hc : ∀ j, j < xs.length → (w.cell? ⟨L'.blk, L'.sh + off + 0 + j, none⟩).isSome = true := fun j hj => by
        rw [cell_of f3, Array.getElem?_eq_getElem (by omega)]; rfl
      have hf : ∀ j, j < xs.length → w.frozen? ⟨L'.blk, L'.sh + off + 0 + j, none⟩ = false := fun j hj => by
        simp only [World.frozen?, f3, Nat.add_zero]
        refine Bool.eq_false_iff.2 fun hd => ?_
        simp at hd
        have := f6.1 (L'.sh + off + j) (by omega) (by omega) hd.1 hd.2
        exact absurd ⟨by omega, by omega⟩ (apart_true g3 (j := off + j) (by omega) (by omega))
      have := run_storeCells_cells (P := P) L'.blk (L'.sh + off) xs 0 w hc hf h1
      simpa using this
    all_goals
      obtain ⟨C', c1, c2, c3⟩ := setCells_heap L'.blk xs (L'.sh + off) w C e' fr f3 (by omega)
      obtain ⟨r1, r2, r3, r4⟩ := setCells_rest L'.blk xs (L'.sh + off) w
      have hO : ObjR π σ (.row l' e lo hi) L' (w.setCells L'.blk (L'.sh + off) xs) := by
        refine ⟨C', e', fr, c1, c2.trans f4, ⟨by omega, fun i v hv => ?_⟩, ⟨fun j j1 j2 j3 j4 => f6.1 j j1 (by omega) j3 j4, f6.2⟩, by rw [k2]; exact f7⟩
        rw [k3 i] at hv
        rw [c3]
        by_cases hi : off ≤ i ∧ i < off + new.length
        · rw [if_pos hi] at hv
          rw [if_pos (by omega), show L'.sh + i - (L'.sh + off) = i - off by omega]
          exact hx.get _ _ hv
        · rw [if_neg hi] at hv
          rw [if_neg (by omega)]
          exact f5.2 _ _ hv
      have := SR.put hS b (.row l' e lo hi) (.row l e lo hi) L' (know_of_get g1 (by simp)) hL (fun k hk => setCells_other _ _ _ _ _ hk) r1 ⟨r2, r3, r4⟩ hO
      first | exact this.1 | exact this.2.1 | exact this.2.2
  | _ => exact absurd (show none = some H' from g2) (by simp)

end

end Go.Proofs.Ytlnjikneepgpaaa.Fast
