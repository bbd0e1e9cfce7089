/- What memory holds behind a memo.Cache: entries, in the order in which they came; names, and a map of them. Plain facts and how they are kept. -/
import Derived.Test.YtabdjijlmiobhaaShelf
import Derived.Maps.OwnSet
import Derived.Maps.Own
import Derived.Sort.OwnSorted
import Derived.Below
import Derived.Lib.Hide
import Derived.Lib.SlicesS
import Derived.WalkKit
import Derived.StringKeys
namespace Go.Proofs.Ytabdjijlmiobhaa.G
open Go.RowKit Go.Maps Go.Sort Go.WideMaps

/-- A kept value under its name. -/
structure Ent where
  name : ByteArray
  turn : Int
  deep : Int
  val : ByteArray
def Ent.cell (e : Ent) : Value := .agg #[.int .i64 e.turn, .int .i64 e.deep, .string e.val]
def Ent.datum (e : Ent) : DataW Unit := .agg [.lit (.int .i64 e.turn), .lit (.int .i64 e.deep), .lit (.string e.val.data.toList)]
/-- How a value of the map reads. -/
def valR : Value → Option (DataW Unit × List MemPlace)
  | .agg fs => match fs.toList with
    | [.int .i64 a, .int .i64 b, .string s] => some (.agg [.lit (.int .i64 a), .lit (.int .i64 b), .lit (.string s.data.toList)], [])
    | _ => none
  | _ => none
theorem valR_mk (e : Ent) : valR e.cell = some (e.datum, []) := rfl
theorem valR_inv {v : Value} {e : Ent} {ps : List MemPlace} (h : valR v = some (e.datum, ps)) : v = e.cell := by
  unfold valR at h
  split at h
  · rename_i fs
    split at h
    · rename_i a b s heq
      simp only [Option.some.injEq, Prod.mk.injEq, Ent.datum, DataW.agg.injEq, List.cons.injEq, DataW.lit.injEq, Lit.int.injEq, Lit.string.injEq, true_and, and_true] at h
      obtain ⟨⟨ha, hb, hs⟩, _⟩ := h
      have hf : fs = #[.int .i64 a, .int .i64 b, .string s] := by rw [← Array.toList_inj, heq]
      have hs' : s = e.val := ByteArray.ext (Array.toList_inj.mp hs)
      rw [hf, ha, hb, hs']; rfl
    · cases h
  · cases h

def keyL (x : ByteArray) : Lit := .string x.data.toList
theorem keyL_inj {x y : ByteArray} (h : keyL x = keyL y) : x = y := by
  unfold keyL at h
  simp only [Lit.string.injEq] at h
  exact ByteArray.ext (Array.toList_inj.mp h)

/-- Block b is a map that holds just what g says. -/
def StrMap (w : World) (b n : Nat) (g : ByteArray → Option (DataW Unit)) : Prop :=
  ∃ D : DataW Unit, w.ownsMap Try.prog 9 valR b n D ∧ (∀ x z, D.atKey (keyL x) z = (g x).getD z) ∧ ∀ x, Maps.has D (keyL x) = (g x).isSome

theorem str_law : Keyed Try.prog 9 := string_keyed Try.underlying9
theorem key_mk (x : ByteArray) (hx : x.size ≤ maxLen) : keyOf Try.prog 9 (.string x) = some (keyL x) := keyOf_string_mk Try.underlying9 hx
theorem val_zero (w : World) : (zeroValue 66).run Try.prog w = .ok (.agg #[.int .i64 0, .int .i64 0, .string ⟨#[]⟩]) w := by kernel_rfl

theorem atKey_del {D : DataW Unit} {g : ByteArray → Option (DataW Unit)} (h : ∀ x z, D.atKey (keyL x) z = (g x).getD z) (x y : ByteArray) (z : DataW Unit) :
    (D.del (keyL x)).atKey (keyL y) z = ((if y = x then none else g y) : Option (DataW Unit)).getD z := by
  by_cases e : y = x
  · subst e
    rw [if_pos rfl, atKey_del_same]; rfl
  · rw [if_neg e, atKey_del_other (fun hh => e (keyL_inj hh))]
    exact h y z
theorem has_del {D : DataW Unit} {g : ByteArray → Option (DataW Unit)} (h : ∀ x, Maps.has D (keyL x) = (g x).isSome) (x y : ByteArray) :
    Maps.has (D.del (keyL x)) (keyL y) = ((if y = x then none else g y) : Option (DataW Unit)).isSome := by
  by_cases e : y = x
  · subst e
    rw [if_pos rfl, has_del_same]; rfl
  · rw [if_neg e, has_del_other (fun hh => e (keyL_inj hh))]
    exact h y
theorem atKey_put {D : DataW Unit} {g : ByteArray → Option (DataW Unit)} (hD : IsMap D) (h : ∀ x z, D.atKey (keyL x) z = (g x).getD z) (d : DataW Unit) (x y : ByteArray) (z : DataW Unit) :
    (D.put (keyL x) d).atKey (keyL y) z = ((if y = x then some d else g y) : Option (DataW Unit)).getD z := by
  by_cases e : y = x
  · subst e
    rw [if_pos rfl, atKey_put_same hD (show WideAt.IsKeyLit (keyL y) from trivial)]; rfl
  · rw [if_neg e, atKey_put_other (fun hh => e (keyL_inj hh))]
    exact h y z
theorem has_put {D : DataW Unit} {g : ByteArray → Option (DataW Unit)} (hD : IsMap D) (h : ∀ x, Maps.has D (keyL x) = (g x).isSome) (d : DataW Unit) (x y : ByteArray) :
    Maps.has (D.put (keyL x) d) (keyL y) = ((if y = x then some d else g y) : Option (DataW Unit)).isSome := by
  by_cases e : y = x
  · subst e
    rw [if_pos rfl, has_put_same hD (show WideAt.IsKeyLit (keyL y) from trivial)]; rfl
  · rw [if_neg e, has_put_other (fun hh => e (keyL_inj hh))]
    exact h y

/-! ### entries -/
def look (E : List Ent) (x : ByteArray) : Option (DataW Unit) := (E.find? (fun e => decide (e.name = x))).map Ent.datum
def without (E : List Ent) (x : ByteArray) : List Ent := E.filter (fun e => decide (e.name ≠ x))
def names (E : List Ent) : List ByteArray := E.map Ent.name

theorem look_without (E : List Ent) (x : ByteArray) : look (without E x) = fun y => if y = x then none else look E y := by
  funext y
  unfold look without
  induction E with
  | nil => simp
  | cons e E ih =>
    by_cases h : e.name = x
    · rw [List.filter_cons_of_neg (by simp [h]), ih]
      by_cases hy : y = x
      · rw [if_pos hy, if_pos hy]
      · rw [if_neg hy, if_neg hy, List.find?_cons_of_neg (by simp; intro hh; exact hy (hh.symm.trans h))]
    · rw [List.filter_cons_of_pos (by simp [h])]
      by_cases hy : y = x
      · rw [if_pos hy] at ih ⊢
        rw [List.find?_cons_of_neg (by simp; intro hh; exact h (hh.trans hy))]
        exact ih
      · rw [if_neg hy] at ih ⊢
        by_cases hn : e.name = y
        · rw [List.find?_cons_of_pos (by simp [hn]), List.find?_cons_of_pos (by simp [hn])]
        · rw [List.find?_cons_of_neg (by simp [hn]), List.find?_cons_of_neg (by simp [hn])]
          exact ih
theorem look_snoc (E : List Ent) (e : Ent) (h : e.name ∉ names E) : look (E ++ [e]) = fun y => if y = e.name then some e.datum else look E y := by
  funext y
  unfold look
  induction E with
  | nil =>
    by_cases hy : y = e.name
    · rw [if_pos hy, List.nil_append, List.find?_cons_of_pos (by simp [hy])]; rfl
    · rw [if_neg hy, List.nil_append, List.find?_cons_of_neg (by simp; intro hh; exact hy hh.symm)]
  | cons f E ih =>
    have ih := ih (fun hh => h (List.mem_cons_of_mem _ hh))
    have hf : f.name ≠ e.name := fun hh => h (by simp [names, hh])
    rw [List.cons_append]
    by_cases hn : f.name = y
    · rw [List.find?_cons_of_pos (by simp [hn]), List.find?_cons_of_pos (by simp [hn]), if_neg (fun hh => hf (hn.trans hh))]
    · rw [List.find?_cons_of_neg (by simp [hn]), List.find?_cons_of_neg (by simp [hn])]
      exact ih

theorem names_without (E : List Ent) (x : ByteArray) : names (without E x) = (names E).filter (fun z => decide (z ≠ x)) := by
  unfold names without
  rw [List.filter_map]; rfl
theorem not_mem_without (E : List Ent) (x : ByteArray) : x ∉ names (without E x) := by
  rw [names_without]; simp
theorem without_self {E : List Ent} {x : ByteArray} (h : x ∉ names E) : without E x = E := by
  unfold without
  rw [List.filter_eq_self]
  intro e he
  simp only [decide_eq_true_eq]
  intro hh
  exact h (hh ▸ List.mem_map_of_mem he)
theorem nodup_without {E : List Ent} (h : (names E).Nodup) (x : ByteArray) : (names (without E x)).Nodup := by
  rw [names_without]; exact h.filter _

theorem idxFrom_del (x : ByteArray) : ∀ (zs : List ByteArray) (i : Nat), zs.Nodup → x ∈ zs → ∃ j : Nat, Lib.idxFromS zs x i = ((i + j : Nat) : Int) ∧ j < zs.length ∧ zs.take j ++ zs.drop (j + 1) = zs.filter (fun z => decide (z ≠ x))
  | [], _, _, h => absurd h (by simp)
  | z :: zs, i, hn, h => by
    rw [List.nodup_cons] at hn
    by_cases e : z = x
    · refine ⟨0, by simp [Lib.idxFromS, e], by simp, ?_⟩
      rw [List.filter_cons_of_neg (by simp [e])]
      simp only [List.take_zero, List.nil_append, List.drop_succ_cons, List.drop_zero]
      exact (List.filter_eq_self.mpr (fun y hy => by simp only [decide_eq_true_eq]; intro hh; exact hn.1 (e ▸ hh ▸ hy))).symm
    · obtain ⟨j, h1, h2, h3⟩ := idxFrom_del x zs (i + 1) hn.2 (by rcases List.mem_cons.mp h with hh | hh; exact absurd hh.symm e; exact hh)
      refine ⟨j + 1, ?_, by simp; omega, ?_⟩
      · simp only [Lib.idxFromS, if_neg e, h1]; congr 1; omega
      · rw [List.filter_cons_of_pos (by simp [e])]
        simp only [List.take_succ_cons, List.drop_succ_cons, List.cons_append, h3]
theorem idx_del (x : ByteArray) (zs : List ByteArray) (hn : zs.Nodup) (h : x ∈ zs) : ∃ j : Nat, Lib.idxOfS zs x = (j : Int) ∧ j < zs.length ∧ zs.take j ++ zs.drop (j + 1) = zs.filter (fun z => decide (z ≠ x)) := by
  obtain ⟨j, h1, h2, h3⟩ := idxFrom_del x zs 0 hn h
  exact ⟨j, by unfold Lib.idxOfS; rw [h1]; simp, h2, h3⟩
theorem idx_miss (x : ByteArray) (zs : List ByteArray) (h : x ∉ zs) : Lib.idxOfS zs x = -1 := by
  have := Lib.idxOfS_miss zs zs.length x (fun j hj e => h (by
    rw [← e, List.getD_eq_getElem?_getD, List.getElem?_eq_getElem hj]; exact List.getElem_mem hj))
  rwa [List.take_length] at this

def cellsOf (zs : List ByteArray) : List Value := zs.map Value.string
theorem cellsOf_enc (zs : List ByteArray) : cellsOf zs = (zs.map (fun z => z.data.toList)).map encStr := by
  unfold cellsOf
  rw [List.map_map]
  rfl

/-- What memory holds behind a cache: in its block cb four cells; the names' row; the map's block. Nothing of it lies below base. -/
structure CacheV (base : Nat) (w : World) (cb n : Nat) (M h : Int) (E : List Ent) (v : Value) (bm : Nat) : Prop where
  c0 : w.cell? ⟨cb, 0, none⟩ = some (.int .i64 M)
  c1 : w.cell? ⟨cb, 1, none⟩ = some (.int .i64 h)
  c2 : w.cell? ⟨cb, 2, none⟩ = some v
  c3 : w.cell? ⟨cb, 3, none⟩ = some (.map (some bm))
  f1 : w.frozen? ⟨cb, 1, none⟩ = false
  f2 : w.frozen? ⟨cb, 2, none⟩ = false
  row : w.ownsRow base 9 1 v E.length (cellsOf (names E))
  mp : StrMap w bm n (look E)
  hcb : base ≤ cb
  hbm : base ≤ bm
  ne1 : bm ≠ cb
  ne2 : v.ownBlock ≠ some cb
  ne3 : v.ownBlock ≠ some bm
  nodup : (names E).Nodup
  len : E.length ≤ 1001
  hz : base ≤ w.heap.size
  hcz : cb < w.heap.size
  szs : ∀ e ∈ E, e.name.size ≤ maxLen

/-- Nothing of the old blocks has turned but those of F. -/
structure Apart (F : Nat → Prop) (w w' : World) : Prop where
  os : w'.os = w.os
  tape : w'.tape = w.tape
  output : w'.output = w.output
  size : w.heap.size ≤ w'.heap.size
  block : ∀ k, k < w.heap.size → ¬ F k → w'.heap[k]? = w.heap[k]?
theorem Apart.refl (F : Nat → Prop) (w : World) : Apart F w w := ⟨rfl, rfl, rfl, Nat.le_refl _, fun _ _ _ => rfl⟩
theorem Apart.andThen {F F' : Nat → Prop} {a b c : World} (h : Apart F a b) (k : Apart F' b c) (hF : ∀ i, i < a.heap.size → F' i → F i) : Apart F a c :=
  ⟨k.os.trans h.os, k.tape.trans h.tape, k.output.trans h.output, Nat.le_trans h.size k.size, fun i hi hn => (k.block i (Nat.lt_of_lt_of_le hi h.size) (fun hh => hn (hF i hi hh))).trans (h.block i hi hn)⟩
theorem Apart.mono {F F' : Nat → Prop} {a b : World} (h : Apart F a b) (hF : ∀ i, i < a.heap.size → F i → F' i) : Apart F' a b :=
  ⟨h.os, h.tape, h.output, h.size, fun i hi hn => h.block i hi (fun hh => hn (hF i hi hh))⟩
theorem Apart.of_grown {w w' : World} {row : Option Nat} (hg : w.grownBy w' row) : Apart (fun k => row = some k) w w' :=
  ⟨hg.os, hg.tape, hg.output, hg.size, fun k hk hn => hg.block k hk (fun e => hn e.symm)⟩
theorem Apart.below {F : Nat → Prop} {w w' : World} {B : Nat} (h : Apart F w w') (hB : B ≤ w.heap.size) (hF : ∀ k, F k → B ≤ k) : Below B w w' :=
  ⟨h.os, h.tape, h.output, h.size, fun k hk => h.block k (Nat.lt_of_lt_of_le hk hB) (fun hh => absurd (hF k hh) (by omega))⟩
theorem Apart.alloc (F : Nat → Prop) (w : World) (o : Obj) : Apart F w (w.alloc o) :=
  ⟨rfl, rfl, rfl, by simp, fun k hk _ => Below.heap_alloc _ _ _ hk⟩
theorem Apart.grown {F : Nat → Prop} {w w' : World} (h : Apart F w w') {row : Option Nat} (hF : ∀ k, k < w.heap.size → F k → row = some k) : w.grownBy w' row :=
  ⟨h.os, h.tape, h.output, h.size, fun k hk hn => h.block k hk (fun hh => hn (hF k hk hh).symm)⟩

/-- A cache's own blocks. -/
def Foot (cb bm : Nat) (v : Value) (k : Nat) : Prop := k = cb ∨ k = bm ∨ v.ownBlock = some k

/-- Behind a call on a cache: it holds other entries; the names' row is the elder one or a new one; no other block has turned. -/
structure Moved (base : Nat) (w w' : World) (cb n : Nat) (M h : Int) (E : List Ent) (v : Value) (bm : Nat) (v' : Value) : Prop where
  cache : CacheV base w' cb n M h E v' bm
  own : ∀ k, v'.ownBlock = some k → v.ownBlock = some k ∨ w.heap.size ≤ k
  apart : Apart (Foot cb bm v) w w'
end Go.Proofs.Ytabdjijlmiobhaa.G
