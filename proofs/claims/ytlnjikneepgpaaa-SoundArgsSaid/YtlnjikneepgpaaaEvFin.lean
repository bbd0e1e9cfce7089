/- Laws of finitely many cases: open numbers, of which only their remainders are asked. -/
import Derived.Test.YtlnjikneepgpaaaEvExec
namespace Go.Proofs.Ytlnjikneepgpaaa.Fast
open Go.RowKit
noncomputable section

/-- Place of an open number, by a table -/
def placeK (pf : FuncId) (tab : Nat → Nat → Option Nat) : Known := fun f => Bool.rec none (some fun args H => match args with
  | [.sym i, .int .i64 (.ofNat n)] => Option.rec (.no []) (fun r => .ret (.int .i64 (.ofNat r)) H) (tab i n)
  | _ => .no []) (Nat.beq f pf)

def PlaceOk (P : Program) (pf : FuncId) : Prop :=
  ∀ (a n : Int) (w : World), (Lit.int .i64 a).wf = true → 0 < n → n ≤ 4611686018427387904 → Calls P pf #[.int .i64 a, .int .i64 n] w fun e w' => e = .returned (.int .i64 (a % n)) ∧ w' = w

section
variable {π : Nat → Value} {B : Nat} {P : Program}

theorem CallR.same {f : FuncId} {xs : Array Value} {σ : Sg} {w : World} {H : Heap} {x : Value} {v : AV} (hS : SR π B σ H w) (hv : VR π σ v x) (h : Calls P f xs w fun e w' => e = .returned x ∧ w' = w) : Calls P f xs w (CallR π B ⟨σ, w, H⟩ (.ret v H)) :=
  h.mono fun e w' ⟨h1, h2⟩ => by subst h2; exact ⟨σ, x, h1, hv, hS, Ext.refl _ _ _, Nx.refl _ _⟩

theorem placeK_ok {pf : FuncId} {tab : Nat → Nat → Option Nat} {z : Nat → Int} (hp : PlaceOk P pf) (hz : ∀ i, (Lit.int .i64 (z i)).wf = true) (ht : ∀ i n r, tab i n = some r → 0 < n ∧ n ≤ 4611686018427387904 ∧ z i % (n : Int) = r) :
    KnownOk (fun i => .int .i64 (z i)) B P (placeK pf tab) := by
  intro f g hf args H hfine σ w xs hS hl
  unfold placeK at hf
  cases hb : Nat.beq f pf with
  | false => rw [hb] at hf; simp at hf
  | true =>
    rw [hb] at hf
    obtain rfl := Option.some.inj hf
    obtain rfl := Nat.eq_of_beq_eq_true hb
    dsimp only at hfine ⊢
    split at hfine
    · rename_i i n
      cases hr : tab i n with
      | none => rw [hr] at hfine; exact hfine.elim
      | some r =>
        obtain ⟨h1, h2, h3⟩ := ht i n r hr
        match xs, hl with
        | ⟨x :: y :: l⟩, .cons _ _ _ _ a b =>
          cases b with
          | cons _ _ _ _ b c =>
            cases c
            cases a
            cases b
            refine CallR.same hS ?_ (hp (z i) n w (hz i) (by omega) (by omega))
            rw [h3]
            exact .int _ _
    · exact hfine.elim
end

/-- A law of open numbers, by the cases of their remainders. -/
theorem fin_calls {P : Program} {pf f : FuncId} {n : Nat} {args : List AV} {tab : Nat → Nat → Option Nat} {xs : Array Value} {w : World} (z : Nat → Int) (hp : PlaceOk P pf) (hn : NamesOk P) (hm : P.follows .mixedOrders = true)
    (hb : ∀ fn, P.funcs[f]? = some fn → fn.body.isSome = true) (hz : ∀ i, (Lit.int .i64 (z i)).wf = true) (ht : ∀ i n r, tab i n = some r → 0 < n ∧ n ≤ 4611686018427387904 ∧ z i % (n : Int) = r)
    (hl : VRL (fun i => .int .i64 (z i)) (fun _ => none) args xs.toList) (hf : isTrue (call P (placeK pf tab) n f args Heap.emp) = true) : Calls P f xs w fun e w' => e = .returned (.bool true) ∧ Below w.heap.size w w' :=
  call_true (fun _ => rfl) (fun _ => placeK_ok hp hz ht) hn hm hb hl hf

/-- one number, two, each with one place asked -/
def tab1 (n r : Nat) : Nat → Nat → Option Nat := fun _ m => Bool.rec none (some r) (Nat.beq m n)
def tab2 (n r m s : Nat) : Nat → Nat → Option Nat := fun i k => Nat.rec (Bool.rec none (some r) (Nat.beq k n)) (fun _ _ => Bool.rec none (some s) (Nat.beq k m)) i
def zs2 (a b : Int) : Nat → Int | 0 => a | _ => b

theorem tab1_ok {a : Int} {n r : Nat} (h0 : 0 < n) (h1 : n ≤ 4611686018427387904) (h : a % (n : Int) = r) : ∀ i k q, tab1 n r i k = some q → 0 < k ∧ k ≤ 4611686018427387904 ∧ a % (k : Int) = q := by
  intro i k q hq
  unfold tab1 at hq
  cases hb : Nat.beq k n with
  | false => rw [hb] at hq; simp at hq
  | true =>
    rw [hb] at hq
    obtain rfl := Option.some.inj hq
    obtain rfl := Nat.eq_of_beq_eq_true hb
    exact ⟨h0, h1, h⟩

theorem tab2_ok {a b : Int} {n r m s : Nat} (h0 : 0 < n) (h1 : n ≤ 4611686018427387904) (h : a % (n : Int) = r) (g0 : 0 < m) (g1 : m ≤ 4611686018427387904) (g : b % (m : Int) = s) :
    ∀ i k q, tab2 n r m s i k = some q → 0 < k ∧ k ≤ 4611686018427387904 ∧ zs2 a b i % (k : Int) = q := by
  intro i k q hq
  cases i with
  | zero => exact tab1_ok h0 h1 h 0 k q hq
  | succ i => exact tab1_ok g0 g1 g 0 k q hq

theorem mod_cases (a : Int) (n : Nat) (h : 0 < n) : ∃ r : Nat, r < n ∧ a % (n : Int) = r := by
  have h1 := Int.emod_nonneg a (show (n : Int) ≠ 0 by omega)
  have h2 := Int.emod_lt_of_pos a (show (0 : Int) < n by omega)
  exact ⟨(a % (n : Int)).toNat, by omega, by omega⟩

theorem zs2_wf {a b : Int} (ha : (Lit.int .i64 a).wf = true) (hb : (Lit.int .i64 b).wf = true) : ∀ i, (Lit.int .i64 (zs2 a b i)).wf = true
  | 0 => ha
  | _ + 1 => hb

theorem vrl_one (z : Nat → Int) (a : Int) (h : z 0 = a) : VRL (fun i => .int .i64 (z i)) (fun _ => none) [.sym 0] (#[Value.int .i64 a]).toList := by
  subst h; exact .cons _ _ _ _ (.sym 0) .nil
theorem vrl_two (a b : Int) : VRL (fun i => .int .i64 (zs2 a b i)) (fun _ => none) [.sym 0, .sym 1] (#[Value.int .i64 a, Value.int .i64 b]).toList := .cons _ _ _ _ (.sym 0) (.cons _ _ _ _ (.sym 1) .nil)

/-- the names of functions, looked at one by one -/
def namesOk (P : Program) : Bool := P.funcs.toList.all fun fn => !(fn.name == "runtime.NumGoroutine")
theorem namesOk_ok {P : Program} (h : namesOk P = true) : NamesOk P := fun f fn hf _ => by
  unfold namesOk at h
  rw [List.all_eq_true] at h
  have := h fn (List.mem_of_getElem? (by rw [Array.getElem?_toList]; exact hf))
  simpa using this
end
end Go.Proofs.Ytlnjikneepgpaaa.Fast
