/- Laws of finitely many cases: open numbers, of which only their remainders are asked. -/
import Derived.Test.YtlnjikneepgpaaaEvExec
namespace Go.Proofs.Ytlnjikneepgpaaa.Fast
open Go.RowKit
noncomputable section

/-- Place of an open number, by a table -/
def placeK (pf : FuncId) (tab : Nat → Nat → Option Nat) : Known := fun f => Bool.rec none (some fun args H => match args with
  | [.sym i, .int .i64 (.ofNat n)] => Option.rec (.no []) (fun r => .ret (.int .i64 (.ofNat r)) H) (tab i n)
  | _ => .no []) (Nat.beq f pf)

def PlaceOk (P : Program) (pf : FuncId) : Prop :=
  ∀ (a n : Int) (w : World), (Lit.int .i64 a).wf = true → 0 < n → n ≤ 4611686018427387904 → Calls P pf #[.int .i64 a, .int .i64 n] w fun e w' => e = .returned (.int .i64 (a % n)) ∧ w' = w

section
variable {π : Nat → Value} {B : Bd} {P : Program}

theorem CallR.same {f : FuncId} {xs : Array Value} {σ : Sg} {w : World} {H : Heap} {x : Value} {v : AV} (hS : SR π B σ H w) (hv : VR π σ v x) (h : Calls P f xs w fun e w' => e = .returned x ∧ w' = w) : Calls P f xs w (CallR π B ⟨σ, w, H, []⟩ (.ret v H)) :=
  h.mono fun e w' ⟨h1, h2⟩ => by subst h2; exact ⟨σ, x, h1, hv, hS, Ext.refl _ _ _, Nx.refl _ _⟩

theorem placeK_ok {pf : FuncId} {tab : Nat → Nat → Option Nat} {z : Nat → Int} (hp : PlaceOk P pf) (hz : ∀ i, (Lit.int .i64 (z i)).wf = true) (ht : ∀ i n r, tab i n = some r → 0 < n ∧ n ≤ 4611686018427387904 ∧ z i % (n : Int) = r) :
    KnownOk (fun i => .int .i64 (z i)) B P (placeK pf tab) := by
  intro f g hf args H hfine σ w xs hS hl
  unfold placeK at hf
  cases hb : Nat.beq f pf with
  | false => rw [hb] at hf; simp at hf
  | true =>
    rw [hb] at hf
    obtain rfl := Option.some.inj hf
    obtain rfl := Nat.eq_of_beq_eq_true hb
    dsimp only at hfine ⊢
    split at hfine
    · rename_i i n
      cases hr : tab i n with
      | none => rw [hr] at hfine; exact hfine.elim
      | some r =>
        obtain ⟨h1, h2, h3⟩ := ht i n r hr
        match xs, hl with
        | ⟨x :: y :: l⟩, .cons _ _ _ _ a b =>
          cases b with
          | cons _ _ _ _ b c =>
            cases c
            cases a
            cases b
            refine CallR.same hS ?_ (hp (z i) n w (hz i) (by omega) (by omega))
            rw [h3]
            exact .int _ _
    · exact hfine.elim
end

/-- A law of open numbers, by the cases of their remainders. -/
theorem fin_calls {P : Program} {pf f : FuncId} {n : Nat} {args : List AV} {tab : Nat → Nat → Option Nat} {xs : Array Value} {w : World} (z : Nat → Int) (hp : PlaceOk P pf) (hn : NamesOk P) (hm : P.follows .mixedOrders = true)
    (hb : ∀ fn, P.funcs[f]? = some fn → fn.body.isSome = true) (hz : ∀ i, (Lit.int .i64 (z i)).wf = true) (ht : ∀ i n r, tab i n = some r → 0 < n ∧ n ≤ 4611686018427387904 ∧ z i % (n : Int) = r)
    (hl : VRL (fun i => .int .i64 (z i)) (fun _ => none) args xs.toList) (hf : isTrue (call P (placeK pf tab) n f args Heap.emp) = true) : Calls P f xs w fun e w' => e = .returned (.bool true) ∧ Below w.heap.size w w' :=
  call_true (fun _ => rfl) (placeK_ok hp hz ht) hn hm hb hl hf

/-- one number, two, each with one place asked -/
def tab1 (n r : Nat) : Nat → Nat → Option Nat := fun _ m => Bool.rec none (some r) (Nat.beq m n)
def tab2 (n r m s : Nat) : Nat → Nat → Option Nat := fun i k => Nat.rec (Bool.rec none (some r) (Nat.beq k n)) (fun _ _ => Bool.rec none (some s) (Nat.beq k m)) i
def zs2 (a b : Int) : Nat → Int | 0 => a | _ => b

theorem tab1_ok {a : Int} {n r : Nat} (h0 : 0 < n) (h1 : n ≤ 4611686018427387904) (h : a % (n : Int) = r) : ∀ i k q, tab1 n r i k = some q → 0 < k ∧ k ≤ 4611686018427387904 ∧ a % (k : Int) = q := by
  intro i k q hq
  unfold tab1 at hq
  cases hb : Nat.beq k n with
  | false => rw [hb] at hq; simp at hq
  | true =>
    rw [hb] at hq
    obtain rfl := Option.some.inj hq
    obtain rfl := Nat.eq_of_beq_eq_true hb
    exact ⟨h0, h1, h⟩

theorem tab2_ok {a b : Int} {n r m s : Nat} (h0 : 0 < n) (h1 : n ≤ 4611686018427387904) (h : a % (n : Int) = r) (g0 : 0 < m) (g1 : m ≤ 4611686018427387904) (g : b % (m : Int) = s) :
    ∀ i k q, tab2 n r m s i k = some q → 0 < k ∧ k ≤ 4611686018427387904 ∧ zs2 a b i % (k : Int) = q := by
  intro i k q hq
  cases i with
  | zero => exact tab1_ok h0 h1 h 0 k q hq
  | succ i => exact tab1_ok g0 g1 g 0 k q hq

/-- numbers, each with one place asked -/
def tabL (l : List (Nat × Nat)) : Nat → Nat → Option Nat := fun i k => obind (nth l i) fun q => Bool.rec none (some q.2) (Nat.beq k q.1)
def zsL : List Int → Nat → Int
  | [], _ => 0
  | a :: _, 0 => a
  | _ :: l, i + 1 => zsL l i
def TabOk : List (Nat × Nat) → List Int → Prop
  | [], _ => True
  | _ :: _, [] => False
  | q :: l, a :: zs => (0 < q.1 ∧ q.1 ≤ 4611686018427387904 ∧ a % (q.1 : Int) = q.2) ∧ TabOk l zs

theorem TabOk.cons {n r : Nat} {a : Int} {l : List (Nat × Nat)} {zs : List Int} (h0 : 0 < n) (h1 : n ≤ 4611686018427387904) (h : a % (n : Int) = r) (hT : TabOk l zs) : TabOk ((n, r) :: l) (a :: zs) := ⟨⟨h0, h1, h⟩, hT⟩

theorem tabL_get : ∀ {l : List (Nat × Nat)} {zs : List Int}, TabOk l zs → ∀ (i : Nat) q, l[i]? = some q → 0 < q.1 ∧ q.1 ≤ 4611686018427387904 ∧ zsL zs i % (q.1 : Int) = q.2
  | [], _, _, i, q, h => by simp at h
  | _ :: _, [], hT, _, _, _ => hT.elim
  | p :: l, a :: zs, hT, 0, q, h => by obtain rfl : p = q := by simpa using h
                                       exact hT.1
  | p :: l, a :: zs, hT, i + 1, q, h => tabL_get hT.2 i q (by simpa using h)

theorem tabL_ok {l : List (Nat × Nat)} {zs : List Int} (hT : TabOk l zs) : ∀ i k q, tabL l i k = some q → 0 < k ∧ k ≤ 4611686018427387904 ∧ zsL zs i % (k : Int) = q := by
  intro i k q hq
  obtain ⟨p, h1, h2⟩ := obind_some (show obind (nth l i) (fun q => Bool.rec none (some q.2) (Nat.beq k q.1)) = some q from hq)
  rw [nth_eq] at h1
  cases hb : Nat.beq k p.1 with
  | false => rw [hb] at h2; simp at h2
  | true =>
    rw [hb] at h2
    obtain rfl := Option.some.inj h2
    obtain rfl := Nat.eq_of_beq_eq_true hb
    exact tabL_get hT i p h1

theorem zsL_wf : ∀ {zs : List Int}, (∀ a ∈ zs, (Lit.int .i64 a).wf = true) → ∀ i, (Lit.int .i64 (zsL zs i)).wf = true
  | [], _, _ => show (Lit.int .i64 0).wf = true by decide
  | a :: _, h, 0 => h a (by simp)
  | _ :: l, h, i + 1 => zsL_wf (zs := l) (fun b hb => h b (by simp [hb])) i

theorem mod_cases (a : Int) (n : Nat) (h : 0 < n) : ∃ r : Nat, r < n ∧ a % (n : Int) = r := by
  have h1 := Int.emod_nonneg a (show (n : Int) ≠ 0 by omega)
  have h2 := Int.emod_lt_of_pos a (show (0 : Int) < n by omega)
  exact ⟨(a % (n : Int)).toNat, by omega, by omega⟩

theorem byte_cases {a : Int} (h : (Lit.int .u8 a).wf = true) : ∃ r : Nat, r < 256 ∧ a = r := by
  have h : (decide (IntKind.u8.min ≤ a) && decide (a ≤ IntKind.u8.max)) = true := h
  simp [IntKind.min, IntKind.max, IntKind.signed, IntKind.bits] at h
  exact ⟨a.toNat, by omega, by omega⟩

theorem zs2_wf {a b : Int} (ha : (Lit.int .i64 a).wf = true) (hb : (Lit.int .i64 b).wf = true) : ∀ i, (Lit.int .i64 (zs2 a b i)).wf = true
  | 0 => ha
  | _ + 1 => hb

theorem vrl_one (z : Nat → Int) (a : Int) (h : z 0 = a) : VRL (fun i => .int .i64 (z i)) (fun _ => none) [.sym 0] (#[Value.int .i64 a]).toList := by
  subst h; exact .cons _ _ _ _ (.sym 0) .nil
theorem vrl_two (a b : Int) : VRL (fun i => .int .i64 (zs2 a b i)) (fun _ => none) [.sym 0, .sym 1] (#[Value.int .i64 a, Value.int .i64 b]).toList := .cons _ _ _ _ (.sym 0) (.cons _ _ _ _ (.sym 1) .nil)

/-- the names of functions, looked at one by one -/
def namesOk (P : Program) : Bool := P.funcs.toList.all fun fn => !(fn.name == "runtime.NumGoroutine")
theorem namesOk_ok {P : Program} (h : namesOk P = true) : NamesOk P := fun f fn hf _ => by
  unfold namesOk at h
  rw [List.all_eq_true] at h
  have := h fn (List.mem_of_getElem? (by rw [Array.getElem?_toList]; exact hf))
  simpa using this

/- answers of a function that hang on no block: run once, used everywhere -/
def flatN (n : Nat) : AV → Bool :=
  Nat.rec (motive := fun _ => AV → Bool) (fun _ => false) (fun _ ih v => match v with
    | .int _ _ => true
    | .bool _ => true
    | .str _ _ => true
    | .nilptr => true
    | .nilslice => true
    | .nilmap => true
    | .nilfunc => true
    | .niliface => true
    | .eslice => true
    | .sym _ => true
    | .iface _ u => ih u
    | .agg l => alls ih l
    | .tuple l => alls ih l
    | _ => false) n

section
variable {π : Nat → Value} {B : Bd} {P : Program}

theorem flat_list {σ σ' : Sg} {p : AV → Bool} (h : ∀ v x, p v = true → VR π σ v x → VR π σ' v x) : ∀ {l : List AV} {xs : List Value}, alls p l = true → VRL π σ l xs → VRL π σ' l xs
  | [], _, _, .nil => .nil
  | v :: l, _, hl, .cons _ _ _ _ a b => by
    obtain ⟨h1, h2⟩ := band_true (show band (p v) (alls p l) = true from hl)
    exact .cons _ _ _ _ (h _ _ h1 a) (flat_list h h2 b)

theorem flat_VR {σ σ' : Sg} : ∀ (n : Nat) (v : AV) (x : Value), flatN n v = true → VR π σ v x → VR π σ' v x
  | 0, _, _, h, _ => absurd (show false = true from h) (by simp)
  | n + 1, v, x, h, hv => by
    cases hv with
    | iface t u y a => exact .iface _ _ _ (flat_VR n u y h a)
    | agg l xs a => exact .agg _ _ (flat_list (flat_VR n) h a)
    | tuple l xs a => exact .tuple _ _ (flat_list (flat_VR n) h a)
    | ptr => exact absurd (show false = true from h) (by simp)
    | slice => exact absurd (show false = true from h) (by simp)
    | sliceg => exact absurd (show false = true from h) (by simp)
    | map => exact absurd (show false = true from h) (by simp)
    | func => exact absurd (show false = true from h) (by simp)
    | le => exact absurd (show false = true from h) (by simp)
    | ge => exact absurd (show false = true from h) (by simp)
    | notin => exact absurd (show false = true from h) (by simp)
    | int => exact .int _ _
    | bool => exact .bool _
    | str => exact .str _
    | nilptr => exact .nilptr
    | eslice => exact .eslice _ _
    | nilslice => exact .nilslice
    | nilmap => exact .nilmap
    | nilfunc => exact .nilfunc
    | niliface => exact .niliface
    | sym => exact .sym _

theorem emp_SR (w : World) : SR π (topB w) (fun _ => none) Heap.emp w := by
  have hk : ∀ b o, Heap.emp.know b ≠ some o := fun b o h => by
    have := know_get h
    exact absurd (show none = some o from this) (by simp)
  exact ⟨⟨fun b o h => absurd h (hk b o), fun b b' o o' L L' h => absurd h (hk b o), fun _ _ => rfl⟩, fun _ _ => rfl, Nat.le_refl _⟩

/-- a call from nothing, put anywhere -/
theorem call_flat (hπ : ∀ i, (π i).oneCell' = true) {K : Known} (hK : ∀ B, KnownOk π B P K) (hn : NamesOk P) (hm : P.follows .mixedOrders = true) {n k : Nat} {f : FuncId} {args : List AV} {v : AV} {H0 : Heap}
    (hb : ∃ fn c, P.funcs[f]? = some fn ∧ fn.body = some c) (hc : call P K n f args Heap.emp = .ret v H0) (ha : alls (flatN k) args = true) (hv : flatN k v = true) {σ : Sg} {w : World} {H : Heap} {xs : Array Value}
    (hS : SR π B σ H w) (hl : VRL π σ args xs.toList) : Calls P f xs w (CallR π B ⟨σ, w, H, []⟩ (.ret v H)) := by
  have hg := call_ok hπ (hK (topB w)) hn hm (n := n) (f := f) (emp_SR w) (flat_list (flat_VR k) ha hl) (by rw [hc]; trivial)
  rw [hc] at hg
  have hk : ∀ b o, Heap.emp.know b ≠ some o := fun b o h => by
    have := know_get h
    exact absurd (show none = some o from this) (by simp)
  rcases hg with ⟨_, h2⟩ | ⟨y, w', h1, _⟩
  · refine h2.mono fun e w' hr => ?_
    obtain ⟨σ', x, rfl, hx, hS', hE, hN⟩ := hr
    have hold : ∀ j, j < w.heap.size → w'.heap[j]? = w.heap[j]? := fun j hj => hE.frame j hj fun b o L h => absurd h (hk b o)
    refine ⟨σ, x, rfl, flat_VR k v x hv hx, ⟨⟨fun b o h => ?_, hS.rel.inj, fun k hk => (hold k (Nat.lt_of_lt_of_le hk hS.base)).trans (hS.rel.low k hk)⟩, hS.dom, Nat.le_trans hS.base hE.size⟩, ⟨Sg.le_refl σ, hE.os, hE.tape, hE.output, hE.size, fun j hj _ => hold j hj, fun b' o' L' h1 h2 _ => ⟨b', o', L', h1, h2, rfl⟩⟩, Nx.refl _ _⟩
    obtain ⟨L, h1, h2, h3⟩ := hS.rel.obj b o h
    exact ⟨L, h1, h2, h3.same (hold _ h3.lt)⟩
  · exfalso
    obtain ⟨fn, c, h3, h4⟩ := hb
    rw [enter_run hn h3 h4] at h1
    simp at h1
end

def all2 (p : AV → AV → Bool) (l : List AV) : List AV → Bool :=
  List.rec (motive := fun _ => List AV → Bool) (fun m => List.rec (motive := fun _ => Bool) true (fun _ _ _ => false) m)
    (fun a _ ih m => List.rec (motive := fun _ => Bool) false (fun b t _ => band (p a b) (ih t)) m) l

/-- the same, all the way down -/
def aeqN (n : Nat) : AV → AV → Bool :=
  Nat.rec (motive := fun _ => AV → AV → Bool) (fun _ _ => false) (fun _ ih a b => match a with
    | .agg l => (match b with | .agg m => all2 ih l m | _ => false)
    | .tuple l => (match b with | .tuple m => all2 ih l m | _ => false)
    | .iface t u => (match b with | .iface t' u' => band (Nat.beq t t') (ih u u') | _ => false)
    | a => aeqS a b) n

theorem all2_eq {p : AV → AV → Bool} (h : ∀ a b, p a b = true → a = b) : ∀ {l m : List AV}, all2 p l m = true → l = m
  | [], [], _ => rfl
  | [], _ :: _, e => absurd (show false = true from e) (by simp)
  | _ :: _, [], e => absurd (show false = true from e) (by simp)
  | a :: l, b :: m, e => by
    obtain ⟨h1, h2⟩ := band_true (show band (p a b) (all2 p l m) = true from e)
    rw [h a b h1, all2_eq h h2]

theorem aeqN_eq : ∀ (n : Nat) (a b : AV), aeqN n a b = true → a = b
  | 0, _, _, h => absurd (show false = true from h) (by simp)
  | n + 1, a, b, h => by
    cases a with
    | agg l =>
      cases b with
      | agg m => rw [all2_eq (aeqN_eq n) (show all2 (aeqN n) l m = true from h)]
      | _ => exact absurd (show false = true from h) (by simp)
    | tuple l =>
      cases b with
      | tuple m => rw [all2_eq (aeqN_eq n) (show all2 (aeqN n) l m = true from h)]
      | _ => exact absurd (show false = true from h) (by simp)
    | iface t u =>
      cases b with
      | iface t' u' =>
        obtain ⟨h1, h2⟩ := band_true (show band (Nat.beq t t') (aeqN n u u') = true from h)
        rw [Nat.eq_of_beq_eq_true h1, aeqN_eq n _ _ h2]
      | _ => exact absurd (show false = true from h) (by simp)
    | _ => exact aeqS_eq h

abbrev Memo := List (Nat × List (List AV × AV))

def findM (args : List AV) (l : List (List AV × AV)) : Option AV :=
  List.rec (motive := fun _ => Option AV) none (fun q _ ih => Bool.rec ih (some q.2) (aeqL q.1 args)) l
def groupM (f : Nat) (m : Memo) : Option (List (List AV × AV)) :=
  List.rec (motive := fun _ => Option (List (List AV × AV))) none (fun q _ ih => Bool.rec ih (some q.2) (Nat.beq q.1 f)) m

def memoK (m : Memo) (K : Known) : Known := fun f => Option.rec (K f) (fun l => some fun args H => Option.rec (.no []) (fun v => .ret v H) (findM args l)) (groupM f m)

/-- a row of what is kept: that the run says it -/
def rowOk (P : Program) (n f : Nat) (q : List AV × AV) : Bool :=
  band (alls (flatN 5) q.1) (band (flatN 5 q.2) (CR.rec (fun u _ => aeqN 5 u q.2) (fun _ _ => false) (fun _ => false) (call P (fun _ => none) n f q.1 Heap.emp)))
def bodyOk (P : Program) (f : Nat) : Bool := Option.rec false (fun fn => fn.body.isSome) P.funcs[f]?

theorem findM_some {args : List AV} : ∀ {l : List (List AV × AV)} {v : AV}, findM args l = some v → (args, v) ∈ l
  | [], _, h => absurd (show none = some _ from h) (by simp)
  | q :: l, v, h => by
    have h : (Bool.rec (findM args l) (some q.2) (aeqL q.1 args) : Option AV) = some v := h
    cases hb : aeqL q.1 args with
    | false => rw [hb] at h; exact List.mem_cons_of_mem _ (findM_some h)
    | true =>
      rw [hb] at h
      obtain rfl := Option.some.inj h
      obtain rfl := aeqL_eq hb
      exact List.mem_cons_self

theorem groupM_some {f : Nat} : ∀ {m : Memo} {l : List (List AV × AV)}, groupM f m = some l → (f, l) ∈ m
  | [], _, h => absurd (show none = some _ from h) (by simp)
  | q :: m, l, h => by
    have h : (Bool.rec (groupM f m) (some q.2) (Nat.beq q.1 f) : Option (List (List AV × AV))) = some l := h
    cases hb : Nat.beq q.1 f with
    | false => rw [hb] at h; exact List.mem_cons_of_mem _ (groupM_some h)
    | true =>
      rw [hb] at h
      obtain rfl := Option.some.inj h
      obtain rfl := Nat.eq_of_beq_eq_true hb
      exact List.mem_cons_self

def MemoOk (P : Program) (m : Memo) : Prop := ∀ f l, (f, l) ∈ m → bodyOk P f = true ∧ ∀ q ∈ l, ∃ n, rowOk P n f q = true

theorem memoK_ok {π : Nat → Value} {P : Program} (hπ : ∀ i, (π i).oneCell' = true) (hn : NamesOk P) (hm : P.follows .mixedOrders = true) {m : Memo} (h : MemoOk P m) {B : Bd} {K : Known} (hK : KnownOk π B P K) : KnownOk π B P (memoK m K) := by
  intro f g hf
  unfold memoK at hf
  cases hg : groupM f m with
  | none => rw [hg] at hf; exact hK f g hf
  | some l =>
    rw [hg] at hf
    obtain rfl := Option.some.inj hf
    intro args H hfine σ w xs hS hl
    obtain ⟨h1, h2⟩ := h f l (groupM_some hg)
    dsimp only at hfine ⊢
    cases hr : findM args l with
    | none => rw [hr] at hfine; exact hfine.elim
    | some v =>
      obtain ⟨n, h3⟩ := h2 _ (findM_some hr)
      obtain ⟨g1, g2⟩ := band_true h3
      obtain ⟨g3, g4⟩ := band_true g2
      have hb : ∃ fn c, P.funcs[f]? = some fn ∧ fn.body = some c := by
        unfold bodyOk at h1
        cases hq : P.funcs[f]? with
        | none => rw [hq] at h1; simp at h1
        | some fn =>
          rw [hq] at h1
          obtain ⟨c, hc⟩ := Option.isSome_iff_exists.1 h1
          exact ⟨fn, c, rfl, hc⟩
      cases hc : call P (fun _ => none) n f args Heap.emp with
      | ret u H0 =>
        have g4 : aeqN 5 u v = true := by
          have g4 : (CR.rec (fun u _ => aeqN 5 u v) (fun _ _ => false) (fun _ => false) (call P (fun _ => none) n f args Heap.emp) : Bool) = true := g4
          rw [hc] at g4; exact g4
        obtain rfl := aeqN_eq 5 _ _ g4
        exact call_flat hπ (fun _ _ _ h => by simp at h) hn hm hb hc g1 g3 hS hl
      | pan u H0 =>
        have g4 : (CR.rec (fun u _ => aeqN 5 u v) (fun _ _ => false) (fun _ => false) (call P (fun _ => none) n f args Heap.emp) : Bool) = true := g4
        rw [hc] at g4; simp at g4
      | no u =>
        have g4 : (CR.rec (fun u _ => aeqN 5 u v) (fun _ _ => false) (fun _ => false) (call P (fun _ => none) n f args Heap.emp) : Bool) = true := g4
        rw [hc] at g4; simp at g4

theorem fin_memo {P : Program} {m : Memo} (hmm : MemoOk P m) {pf f : FuncId} {n : Nat} {args : List AV} {tab : Nat → Nat → Option Nat} {xs : Array Value} {w : World} (z : Nat → Int) (hp : PlaceOk P pf) (hn : NamesOk P) (hm : P.follows .mixedOrders = true)
    (hb : ∀ fn, P.funcs[f]? = some fn → fn.body.isSome = true) (hz : ∀ i, (Lit.int .i64 (z i)).wf = true) (ht : ∀ i n r, tab i n = some r → 0 < n ∧ n ≤ 4611686018427387904 ∧ z i % (n : Int) = r)
    (hl : VRL (fun i => .int .i64 (z i)) (fun _ => none) args xs.toList) (hf : isTrue (call P (memoK m (placeK pf tab)) n f args Heap.emp) = true) : Calls P f xs w fun e w' => e = .returned (.bool true) ∧ Below w.heap.size w w' :=
  call_true (fun _ => rfl) (memoK_ok (fun _ => rfl) hn hm hmm (placeK_ok hp hz ht)) hn hm hb hl hf
end
end Go.Proofs.Ytlnjikneepgpaaa.Fast
