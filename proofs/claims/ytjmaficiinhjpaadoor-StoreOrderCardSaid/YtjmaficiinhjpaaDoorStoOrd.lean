/- store's laws: a map of texts beside the store (StoreOrder). -/
import Derived.Test.YtjmaficiinhjpaaDoorStoLaw0
import Derived.Maps.Views
namespace Go.Proofs.YtjmaficiinhjpaaDoor.G
open Go.RowKit Go.Maps Go.WideMaps Go.Sort

def strR : Value → Option (DataW Unit × List MemPlace)
  | .string s => some (.lit (.string s.data.toList), [])
  | _ => none
def valD (v : Vr) : DataW Unit := .lit (.string v.val.data.toList)
def lookS (G : List Vr) (x : ByteArray) : Option (DataW Unit) := (lookL G x).map valD
theorem strR_inv {v : Value} {s : ByteArray} {ps : List MemPlace} (h : strR v = some (.lit (.string s.data.toList), ps)) : v = .string s := by
  unfold strR at h
  split at h
  · rename_i t
    simp only [Option.some.injEq, Prod.mk.injEq, DataW.lit.injEq, Lit.string.injEq] at h
    rw [show t = s from ByteArray.ext (Array.toList_inj.mp h.1)]
  · cases h
/-- The map 'last': of each name of G the value. -/
def LastM (w : World) (b n : Nat) (G : List Vr) : Prop :=
  ∃ D : DataW Unit, w.ownsMap Tryd.prog 9 strR b n D ∧ Tidy D ∧ (∀ x z, D.atKey (keyL x) z = (lookS G x).getD z) ∧ (∀ x, Maps.has D (keyL x) = (lookL G x).isSome) ∧ Maps.size D = G.length
theorem LastM.lt {w : World} {b n : Nat} {G : List Vr} (h : LastM w b n G) : b < w.heap.size := by
  obtain ⟨D, hown, _⟩ := h
  exact hown.lt
theorem LastM.kept {w w' : World} {b n : Nat} {G : List Vr} (h : LastM w b n G) (hk : w'.heap[b]? = w.heap[b]?) : LastM w' b n G := by
  obtain ⟨D, ⟨es, clock, hb, hh⟩, h2⟩ := h
  exact ⟨D, ⟨es, clock, hk.trans hb, hh⟩, h2⟩
theorem LastM.obj {w : World} {b n : Nat} {G : List Vr} (h : LastM w b n G) : ∃ o, w.heap[b]? = some o := by
  obtain ⟨D, ⟨es, clock, hb, hh⟩, h2⟩ := h
  exact ⟨_, hb⟩
theorem lookS_setG {l : List Vr} (h : RisesV l) (v : Vr) : lookS (setG l v) = fun y => if y = v.name then some (valD v) else lookS l y := by
  funext y
  unfold lookS
  rw [look_setG h]
  by_cases hy : y = v.name <;> simp [hy]
theorem lookS_dropG (l : List Vr) (x : ByteArray) : lookS (dropG l x) = fun y => if y = x then none else lookS l y := by
  funext y
  unfold lookS
  rw [look_dropG]
  by_cases hy : y = x <;> simp [hy]
theorem look_absent {l : List Vr} {x : ByteArray} (h : lookL l x = none) : ∀ v ∈ l, v.name ≠ x := by
  induction l with
  | nil => intro v hv; cases hv
  | cons u l ih =>
    rw [lookL] at h
    split at h
    · cases h
    · rename_i hn
      split at h
      · cases h
      · rename_i hu
        intro v hv
        rcases List.mem_cons.mp hv with rfl | hv
        · exact hu
        · exact ih hn v hv
theorem setG_length {l : List Vr} (h : RisesV l) (v : Vr) : (setG l v).length = if (lookL l v.name).isSome then l.length else l.length + 1 := by
  induction l with
  | nil => rfl
  | cons u l ih =>
    obtain ⟨h1, h2⟩ := List.pairwise_cons.mp h
    rw [setG]
    split
    · rename_i he
      have : (lookL (u :: l) v.name).isSome = true := by
        rw [lookL]
        cases lookL l v.name with
        | some y => rfl
        | none => simp [he]
      rw [if_pos this]; simp
    · rename_i hne
      split
      · have e : lookL (u :: l) v.name = lookL l v.name := by
          rw [lookL]
          cases lookL l v.name with
          | some y => rfl
          | none => simp [hne]
        rw [e, List.length_cons, ih h2]
        split <;> simp
      · rename_i hnl
        have hvu : ltN v.name u.name := by
          rcases ltN_tri u.name v.name with hh | hh | hh
          · exact absurd hh hnl
          · exact absurd hh hne
          · exact hh
        have hl : lookL (u :: l) v.name = none := look_lt (fun z hz => by
          rcases List.mem_cons.mp hz with rfl | hz
          · exact hvu
          · exact ltN_trans hvu (h1 z hz))
        rw [hl]; simp
theorem setG_lenO (l : List Vr) (v : Vr) : (setG l v).length ≤ l.length + 1 := by
  induction l with
  | nil => simp [setG]
  | cons u l ih =>
    rw [setG]
    split
    · simp
    · split
      · simp; omega
      · simp
theorem dropG_length {l : List Vr} (h : RisesV l) (x : ByteArray) : (dropG l x).length + (if (lookL l x).isSome then 1 else 0) = l.length := by
  induction l with
  | nil => rfl
  | cons u l ih =>
    obtain ⟨h1, h2⟩ := List.pairwise_cons.mp h
    unfold dropG at ih ⊢
    by_cases hu : u.name = x
    · have hn : lookL l x = none := by rw [← hu]; exact look_lt h1
      rw [List.filter_cons_of_neg (by simp [hu])]
      have := ih h2
      rw [hn] at this
      rw [lookL, hn]
      simp [hu] at this ⊢
      omega
    · rw [List.filter_cons_of_pos (by simp [hu])]
      have e : lookL (u :: l) x = lookL l x := by
        rw [lookL]
        cases lookL l x with
        | some y => rfl
        | none => simp [hu]
      rw [e]
      have := ih h2
      simp only [List.length_cons]
      omega
theorem LastM.put {w' : World} {b m : Nat} {G : List Vr} {D : DataW Unit} (ht : Tidy D) (hat : ∀ x z, D.atKey (keyL x) z = (lookS G x).getD z) (hhas : ∀ x, Maps.has D (keyL x) = (lookL G x).isSome) (hsz : Maps.size D = G.length) (hr : RisesV G) (v : Vr)
    (hown : w'.ownsMap Tryd.prog 9 strR b m (D.put (keyL v.name) (valD v))) : LastM w' b m (setG G v) := by
  refine ⟨_, hown, ht.put (show WideAt.IsKeyLit (keyL v.name) from trivial) _, fun y z => ?_, fun y => ?_, ?_⟩
  · rw [lookS_setG hr]
    by_cases e : y = v.name
    · subst e
      simp only [if_true]
      rw [atKey_put_same ht.isMap (show WideAt.IsKeyLit (keyL v.name) from trivial)]; rfl
    · simp only [if_neg e]
      rw [atKey_put_other (fun hh => e (keyL_inj hh))]
      exact hat y z
  · rw [look_setG hr]
    by_cases e : y = v.name
    · subst e
      simp only [if_true]
      rw [has_put_same ht.isMap (show WideAt.IsKeyLit (keyL v.name) from trivial)]; rfl
    · simp only [if_neg e]
      rw [has_put_other (fun hh => e (keyL_inj hh))]
      exact hhas y
  · rw [size_put ht, hhas, setG_length hr, hsz]
theorem LastM.del {w' : World} {b n : Nat} {G : List Vr} {D : DataW Unit} (ht : Tidy D) (hat : ∀ x z, D.atKey (keyL x) z = (lookS G x).getD z) (hhas : ∀ x, Maps.has D (keyL x) = (lookL G x).isSome) (hsz : Maps.size D = G.length) (hr : RisesV G) (x : ByteArray)
    (hown : w'.ownsMap Tryd.prog 9 strR b n (D.del (keyL x))) : LastM w' b n (dropG G x) := by
  refine ⟨_, hown, ht.del _, fun y z => ?_, fun y => ?_, ?_⟩
  · rw [lookS_dropG]
    by_cases e : y = x
    · subst e
      simp only [if_true]
      rw [atKey_del_same]; rfl
    · simp only [if_neg e]
      rw [atKey_del_other (fun hh => e (keyL_inj hh))]
      exact hat y z
  · rw [look_dropG]
    by_cases e : y = x
    · subst e
      simp only [if_true]
      rw [has_del_same]; rfl
    · simp only [if_neg e]
      rw [has_del_other (fun hh => e (keyL_inj hh))]
      exact hhas y
  · have h1 := size_del ht (k := keyL x)
    have h2 := dropG_length hr x
    rw [hhas, hsz] at h1
    omega
theorem LastM.look {w : World} {b n : Nat} {G : List Vr} (h : LastM w b n G) {x : ByteArray} (hx : x.size ≤ maxLen) {v : Vr} (hl : lookL G x = some v) :
    (Instr.lookup 47 (.map (some b)) (.string x) false).run Tryd.prog w = .ok (.string v.val) w := by
  obtain ⟨D, hown, ht, hat, hhas, hsz⟩ := h
  obtain ⟨u, ps, hrun, hv⟩ := hown.lookup str_law Tryd.underlying47 (show (zeroValue 9).run Tryd.prog w = .ok (.string ⟨#[]⟩) w from by kernel_rfl) (show strR (.string ⟨#[]⟩) = some (.lit (.string []), []) from rfl) (key_mk x hx)
  rw [hat] at hv
  have e : (lookS G x).getD (.lit (.string [])) = .lit (.string v.val.data.toList) := by unfold lookS; rw [hl]; rfl
  rw [e] at hv
  rw [strR_inv hv] at hrun
  exact hrun
theorem Sk.turned {base : Nat} {w w' : World} {sb n : Nat} {G : List Vr} {X : List (List Vr × Bool)} {t : Int} {b : Nat} {o o' : Obj} (h : Sk base w sb n G X t [(b, o)]) (hg : w.grownBy w' (some b)) (ho : w'.heap[b]? = some o') : Sk base w' sb n G X t [(b, o')] := by
  obtain ⟨gm, fv, F, hS, hF, hK⟩ := h
  have hb := (hK (b, o) (by simp)).2
  refine ⟨gm, fv, F, hS.kept (Apart.of_grown hg) (fun k hk hf => hb (by rw [show b = k from Option.some.inj hk]; exact hf)), hF, fun p hp => ?_⟩
  obtain rfl : p = (b, o') := by simpa using hp
  exact ⟨ho, hb⟩
end Go.Proofs.YtjmaficiinhjpaaDoor.G
