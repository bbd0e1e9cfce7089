/- store: what memory holds behind a store: the ground (a map), frames (a row of maps), turns. Plain facts and how they are kept. -/
import Derived.Test.YtjmaficiinhjpaaDoorShelf
import Derived.Maps.OwnSet
import Derived.Maps.Own
import Derived.Sort.OwnSorted
import Derived.Below
import Derived.Lib.Hide
import Derived.WalkKit
import Derived.StringKeys
import Derived.OwnWalk
import Derived.Maps.AppendAt
import Derived.StillTailTactics
import Derived.Outline
namespace Go.Proofs.YtjmaficiinhjpaaDoor.G
open Go.RowKit Go.Maps Go.Sort Go.WideMaps

/-- A variable. -/
structure Vr where
  name : ByteArray
  val : ByteArray
  fl : Int
  og : Int
def Vr.cell (e : Vr) : Value := .agg #[.string e.name, .string e.val, .int .i64 e.fl, .int .i64 e.og]
def Vr.cells (e : Vr) : List Value := [.string e.name, .string e.val, .int .i64 e.fl, .int .i64 e.og]
def Vr.datum (e : Vr) : DataW Unit := .agg [.lit (.string e.name.data.toList), .lit (.string e.val.data.toList), .lit (.int .i64 e.fl), .lit (.int .i64 e.og)]
def varR : Value → Option (DataW Unit × List MemPlace)
  | .agg fs => match fs.toList with
    | [.string s, .string t, .int .i64 a, .int .i64 b] => some (.agg [.lit (.string s.data.toList), .lit (.string t.data.toList), .lit (.int .i64 a), .lit (.int .i64 b)], [])
    | _ => none
  | _ => none
theorem varR_mk (e : Vr) : varR e.cell = some (e.datum, []) := rfl
theorem varR_inv {v : Value} {e : Vr} {ps : List MemPlace} (h : varR v = some (e.datum, ps)) : v = e.cell := by
  unfold varR at h
  split at h
  · rename_i fs
    split at h
    · rename_i s t a b heq
      simp only [Option.some.injEq, Prod.mk.injEq, Vr.datum, DataW.agg.injEq, List.cons.injEq, DataW.lit.injEq, Lit.int.injEq, Lit.string.injEq, true_and, and_true] at h
      obtain ⟨⟨hs, ht, ha, hb⟩, _⟩ := h
      have hf : fs = #[.string s, .string t, .int .i64 a, .int .i64 b] := by rw [← Array.toList_inj, heq]
      have hs' : s = e.name := ByteArray.ext (Array.toList_inj.mp hs)
      have ht' : t = e.val := ByteArray.ext (Array.toList_inj.mp ht)
      rw [hf, ha, hb, hs', ht']; rfl
    · cases h
  · cases h

def keyL (x : ByteArray) : Lit := .string x.data.toList
theorem keyL_inj {x y : ByteArray} (h : keyL x = keyL y) : x = y := by
  unfold keyL at h
  simp only [Lit.string.injEq] at h
  exact ByteArray.ext (Array.toList_inj.mp h)

/-- Block b is a map that holds just what g says. -/
def StrMap (w : World) (b n : Nat) (g : ByteArray → Option (DataW Unit)) : Prop :=
  ∃ D : DataW Unit, w.ownsMap Tryd.prog 9 varR b n D ∧ (∀ x z, D.atKey (keyL x) z = (g x).getD z) ∧ ∀ x, Maps.has D (keyL x) = (g x).isSome

theorem str_law : Keyed Tryd.prog 9 := string_keyed Tryd.underlying9
theorem key_mk (x : ByteArray) (hx : x.size ≤ maxLen) : keyOf Tryd.prog 9 (.string x) = some (keyL x) := keyOf_string_mk Tryd.underlying9 hx
theorem var_zero (w : World) : (zeroValue 27).run Tryd.prog w = .ok (.agg #[.string ⟨#[]⟩, .string ⟨#[]⟩, .int .i64 0, .int .i64 0]) w := by kernel_rfl
def zeroV : Vr := ⟨⟨#[]⟩, ⟨#[]⟩, 0, 0⟩

theorem atKey_del {D : DataW Unit} {g : ByteArray → Option (DataW Unit)} (h : ∀ x z, D.atKey (keyL x) z = (g x).getD z) (x y : ByteArray) (z : DataW Unit) :
    (D.del (keyL x)).atKey (keyL y) z = ((if y = x then none else g y) : Option (DataW Unit)).getD z := by
  by_cases e : y = x
  · subst e
    rw [if_pos rfl, atKey_del_same]; rfl
  · rw [if_neg e, atKey_del_other (fun hh => e (keyL_inj hh))]
    exact h y z
theorem has_del {D : DataW Unit} {g : ByteArray → Option (DataW Unit)} (h : ∀ x, Maps.has D (keyL x) = (g x).isSome) (x y : ByteArray) :
    Maps.has (D.del (keyL x)) (keyL y) = ((if y = x then none else g y) : Option (DataW Unit)).isSome := by
  by_cases e : y = x
  · subst e
    rw [if_pos rfl, has_del_same]; rfl
  · rw [if_neg e, has_del_other (fun hh => e (keyL_inj hh))]
    exact h y
theorem atKey_put {D : DataW Unit} {g : ByteArray → Option (DataW Unit)} (hD : IsMap D) (h : ∀ x z, D.atKey (keyL x) z = (g x).getD z) (d : DataW Unit) (x y : ByteArray) (z : DataW Unit) :
    (D.put (keyL x) d).atKey (keyL y) z = ((if y = x then some d else g y) : Option (DataW Unit)).getD z := by
  by_cases e : y = x
  · subst e
    rw [if_pos rfl, atKey_put_same hD (show WideAt.IsKeyLit (keyL y) from trivial)]; rfl
  · rw [if_neg e, atKey_put_other (fun hh => e (keyL_inj hh))]
    exact h y z
theorem has_put {D : DataW Unit} {g : ByteArray → Option (DataW Unit)} (hD : IsMap D) (h : ∀ x, Maps.has D (keyL x) = (g x).isSome) (d : DataW Unit) (x y : ByteArray) :
    Maps.has (D.put (keyL x) d) (keyL y) = ((if y = x then some d else g y) : Option (DataW Unit)).isSome := by
  by_cases e : y = x
  · subst e
    rw [if_pos rfl, has_put_same hD (show WideAt.IsKeyLit (keyL y) from trivial)]; rfl
  · rw [if_neg e, has_put_other (fun hh => e (keyL_inj hh))]
    exact h y

/-! ### lists of variables -/
/-- The last one of a name. -/
def lookL : List Vr → ByteArray → Option Vr
  | [], _ => none
  | v :: l, x => match lookL l x with
    | some u => some u
    | none => if v.name = x then some v else none
def lookD (l : List Vr) (x : ByteArray) : Option (DataW Unit) := (lookL l x).map Vr.datum
theorem look_snoc (l : List Vr) (v : Vr) (x : ByteArray) : lookL (l ++ [v]) x = if x = v.name then some v else lookL l x := by
  induction l with
  | nil =>
    by_cases h : v.name = x
    · simp [lookL, h]
    · simp [lookL, h, Ne.symm h]
  | cons u l ih =>
    rw [List.cons_append, lookL, ih, lookL]
    by_cases h : x = v.name
    · simp [h]
    · simp [h]
theorem lookD_snoc (l : List Vr) (v : Vr) : lookD (l ++ [v]) = fun y => if y = v.name then some v.datum else lookD l y := by
  funext y
  unfold lookD
  rw [look_snoc]
  by_cases h : y = v.name <;> simp [h]
theorem look_none {l : List Vr} {x : ByteArray} (h : ∀ v ∈ l, v.name ≠ x) : lookL l x = none := by
  induction l with
  | nil => rfl
  | cons v l ih =>
    rw [lookL, ih (fun u hu => h u (List.mem_cons_of_mem _ hu)), if_neg (h v (by simp))]
theorem look_mem {l : List Vr} {x : ByteArray} {v : Vr} (h : lookL l x = some v) : v ∈ l ∧ v.name = x := by
  induction l with
  | nil => cases h
  | cons u l ih =>
    rw [lookL] at h
    split at h
    · rename_i y hy
      obtain rfl := Option.some.inj h
      obtain ⟨h1, h2⟩ := ih hy
      exact ⟨List.mem_cons_of_mem _ h1, h2⟩
    · split at h
      · rename_i hn
        obtain rfl := Option.some.inj h
        exact ⟨by simp, hn⟩
      · cases h

/-- Nothing of the old blocks has turned but those of F. -/
structure Apart (F : Nat → Prop) (w w' : World) : Prop where
  os : w'.os = w.os
  tape : w'.tape = w.tape
  output : w'.output = w.output
  size : w.heap.size ≤ w'.heap.size
  block : ∀ k, k < w.heap.size → ¬ F k → w'.heap[k]? = w.heap[k]?
theorem Apart.refl (F : Nat → Prop) (w : World) : Apart F w w := ⟨rfl, rfl, rfl, Nat.le_refl _, fun _ _ _ => rfl⟩
theorem Apart.andThen {F F' : Nat → Prop} {a b c : World} (h : Apart F a b) (k : Apart F' b c) (hF : ∀ i, i < a.heap.size → F' i → F i) : Apart F a c :=
  ⟨k.os.trans h.os, k.tape.trans h.tape, k.output.trans h.output, Nat.le_trans h.size k.size, fun i hi hn => (k.block i (Nat.lt_of_lt_of_le hi h.size) (fun hh => hn (hF i hi hh))).trans (h.block i hi hn)⟩
theorem Apart.mono {F F' : Nat → Prop} {a b : World} (h : Apart F a b) (hF : ∀ i, i < a.heap.size → F i → F' i) : Apart F' a b :=
  ⟨h.os, h.tape, h.output, h.size, fun i hi hn => h.block i hi (fun hh => hn (hF i hi hh))⟩
theorem Apart.of_grown {w w' : World} {row : Option Nat} (hg : w.grownBy w' row) : Apart (fun k => row = some k) w w' :=
  ⟨hg.os, hg.tape, hg.output, hg.size, fun k hk hn => hg.block k hk (fun e => hn e.symm)⟩
theorem Apart.below {F : Nat → Prop} {w w' : World} {B : Nat} (h : Apart F w w') (hB : B ≤ w.heap.size) (hF : ∀ k, F k → B ≤ k) : Below B w w' :=
  ⟨h.os, h.tape, h.output, h.size, fun k hk => h.block k (Nat.lt_of_lt_of_le hk hB) (fun hh => absurd (hF k hh) (by omega))⟩
theorem Apart.alloc (F : Nat → Prop) (w : World) (o : Obj) : Apart F w (w.alloc o) :=
  ⟨rfl, rfl, rfl, by simp, fun k hk _ => Below.heap_alloc _ _ _ hk⟩
theorem Apart.grown {F : Nat → Prop} {w w' : World} (h : Apart F w w') {row : Option Nat} (hF : ∀ k, k < w.heap.size → F k → row = some k) : w.grownBy w' row :=
  ⟨h.os, h.tape, h.output, h.size, fun k hk hn => h.block k hk (fun hh => hn (hF k hk hh).symm)⟩

end Go.Proofs.YtjmaficiinhjpaaDoor.G
