/- table: a map of functions by their names, as a list; the law of an insert, of a look-up. -/
import Derived.Test.YtlnjikneepgpaaaProg
import Derived.Maps.OwnSet
import Derived.Maps.Own
import Derived.Maps.OwnOps
import Derived.Below
import Derived.Lib.Hide
import Derived.WalkKit
import Derived.StringKeys
import Derived.Outline
namespace Go.Proofs.Ytlnjikneepgpaaa.G
open Go.RowKit Go.Maps Go.WideMaps

/-- What a function is. -/
structure Inf where
  mn : Int
  mx : Int
  lz : Bool
  pu : Bool
def Inf.cell (i : Inf) : Value := .agg #[.int .i64 i.mn, .int .i64 i.mx, .bool i.lz, .bool i.pu]
def Inf.datum (i : Inf) : DataW Unit := .agg [.lit (.int .i64 i.mn), .lit (.int .i64 i.mx), .lit (.bool i.lz), .lit (.bool i.pu)]
def infR : Value → Option (DataW Unit × List MemPlace)
  | .agg fs => match fs.toList with
    | [.int .i64 a, .int .i64 b, .bool c, .bool d] => some (.agg [.lit (.int .i64 a), .lit (.int .i64 b), .lit (.bool c), .lit (.bool d)], [])
    | _ => none
  | _ => none
theorem infR_mk (i : Inf) : infR i.cell = some (i.datum, []) := rfl
theorem infR_inv {v : Value} {i : Inf} {ps : List MemPlace} (h : infR v = some (i.datum, ps)) : v = i.cell := by
  unfold infR at h
  split at h
  · rename_i fs
    split at h
    · rename_i a b c d heq
      simp only [Option.some.injEq, Prod.mk.injEq, Inf.datum, DataW.agg.injEq, List.cons.injEq, DataW.lit.injEq, Lit.int.injEq, Lit.bool.injEq, true_and, and_true] at h
      obtain ⟨⟨ha, hb, hc, hd⟩, _⟩ := h
      have hf : fs = #[.int .i64 a, .int .i64 b, .bool c, .bool d] := by rw [← Array.toList_inj, heq]
      rw [hf, ha, hb, hc, hd]; rfl
    · cases h
  · cases h

def keyL (x : ByteArray) : Lit := .string x.data.toList
theorem keyL_inj {x y : ByteArray} (h : keyL x = keyL y) : x = y := by
  unfold keyL at h
  simp only [Lit.string.injEq] at h
  exact ByteArray.ext (Array.toList_inj.mp h)
theorem str_law : Keyed Try.prog 9 := string_keyed Try.underlying9
theorem key_mk (x : ByteArray) (hx : x.size ≤ maxLen) : keyOf Try.prog 9 (.string x) = some (keyL x) := keyOf_string_mk Try.underlying9 hx
theorem inf_zero (w : World) : (zeroValue 61).run Try.prog w = .ok (.agg #[.int .i64 0, .int .i64 0, .bool false, .bool false]) w := by kernel_rfl

/-- What stands at a name: the last that was put there. -/
def lookT : List (ByteArray × Inf) → ByteArray → Option Inf
  | [], _ => none
  | (y, i) :: l, x => if x = y then some i else lookT l x
/-- Block b is a map of these; nothing below B has turned since w0. -/
def Tab (B : Nat) (w0 w : World) (b n : Nat) (L : List (ByteArray × Inf)) : Prop :=
  (∃ D : DataW Unit, w.ownsMap Try.prog 9 infR b n D ∧ (∀ x z, D.atKey (keyL x) z = ((lookT L x).map Inf.datum).getD z) ∧ ∀ x, Maps.has D (keyL x) = (lookT L x).isSome) ∧ Below B w0 w ∧ B ≤ b ∧ B ≤ w0.heap.size

theorem Tab.cells {B : Nat} {w0 w : World} {b n : Nat} {L : List (ByteArray × Inf)} (h : Tab B w0 w b n L) : ∀ k o, k < B → w.cell? ⟨k, o, none⟩ = w0.cell? ⟨k, o, none⟩ :=
  fun k o hk => h.2.1.cell (p := ⟨k, o, none⟩) hk

theorem tab_made (B b : Nat) (w0 w : World) (h0 : Below B w0 w) (hb : b = w.heap.size) (hB : B ≤ w.heap.size) (hB0 : B ≤ w0.heap.size) : Tab B w0 (w.alloc (.map #[] 0)) b 0 [] := by
  subst hb
  refine ⟨⟨_, World.ownsMap_made w Try.prog 9 infR, fun x z => ?_, fun x => ?_⟩, h0.alloc hB _, hB, hB0⟩
  · rfl
  · rfl

theorem tab_update {B : Nat} {w0 w : World} {b n : Nat} {L : List (ByteArray × Inf)} (hT : Tab B w0 w b n L) (hn : n < maxLen) (key : ByteArray) (mn mx : Int) (lz pu : Bool) (hkz : key.size ≤ maxLen) :
    ∃ w', (Instr.mapUpdate 91 (.map (some b)) (.string key) (.agg #[.int .i64 mn, .int .i64 mx, .bool lz, .bool pu])).run Try.prog w = .ok () w' ∧ Tab B w0 w' b (n + 1) ((key, ⟨mn, mx, lz, pu⟩) :: L) := by
  obtain ⟨⟨D, hown, h1, h2⟩, hb, hB, hB0⟩ := hT
  obtain ⟨w', hrun, hown', hgr⟩ := hown.update str_law Try.underlying91 hn (key_mk key hkz) (infR_mk ⟨mn, mx, lz, pu⟩)
  refine ⟨w', hrun, ⟨_, hown', fun y z => ?_, fun y => ?_⟩, hb.grown hgr (Nat.le_trans hB0 hb.size) (fun j hj => by cases hj; exact hB), hB, hB0⟩
  · by_cases e : y = key
    · subst e
      rw [atKey_put_same hown.isMap (show WideAt.IsKeyLit (keyL y) from trivial)]; simp [lookT]
    · rw [atKey_put_other (fun hh => e (keyL_inj hh)), h1]; simp [lookT, e]
  · by_cases e : y = key
    · subst e
      rw [has_put_same hown.isMap (show WideAt.IsKeyLit (keyL y) from trivial)]; simp [lookT]
    · rw [has_put_other (fun hh => e (keyL_inj hh)), h2]; simp [lookT, e]
def noInf : Inf := ⟨0, 0, false, false⟩
theorem tab_look {B : Nat} {w0 w : World} {b n : Nat} {L : List (ByteArray × Inf)} (hT : Tab B w0 w b n L) {ops : Array Oper} {rest : List Oper} {o : Oper} {a : Act} {Q : Exit → Act → World → Prop}
    (hg : o.guard = none) (m x : Operand) (hop : o.op = Op.lookup 91 m x true)
    (mv kv : Value) (hm : a.eval m = mv) (hx : a.eval x = kv) (key : ByteArray) (hm' : mv = .map (some b)) (hx' : kv = .string key) (hkz : key.size ≤ maxLen)
    (hK : wpList Try.prog ops Q rest (a.put o.dst (.tuple #[((lookT L key).getD noInf).cell, .bool (lookT L key).isSome])) w) :
    wpList Try.prog ops Q (o :: rest) a w := by
  subst hm' hx'
  obtain ⟨⟨D, hown, h1, h2⟩, hb, hB, hB0⟩ := hT
  refine wpList_lookup_own_ok w hg m x _ hop 9 61 str_law Try.underlying91 infR (inf_zero w) noInf.datum [] rfl b n D hm hown _ _ hx (key_mk key hkz) ?_
  intro v ps hv
  have e : D.atKey (keyL key) noInf.datum = ((lookT L key).getD noInf).datum := by
    rw [h1]; cases lookT L key <;> rfl
  rw [e] at hv
  rw [infR_inv hv, h2]
  exact hK
end Go.Proofs.Ytlnjikneepgpaaa.G
