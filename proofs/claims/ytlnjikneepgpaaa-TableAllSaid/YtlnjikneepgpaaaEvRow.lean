/- A call without arguments that answers with a row of its own: run once from nothing, kept. -/
import Derived.Test.YtlnjikneepgpaaaEvPlace
namespace Go.Proofs.Ytlnjikneepgpaaa.Fin
open Go.Proofs.Ytlnjikneepgpaaa.Fast Go.RowKit
set_option linter.unusedVariables false
set_option maxRecDepth 1000000

structure RowAns where
  l : List AV
  el : Nat
  lo : Nat
  hi : Nat
  off : Nat
  n : Nat
  cap : Nat
  g : Nat
noncomputable def sameRow (r : RowAns) (off n cap g : Nat) : Option Go.Proofs.Ytlnjikneepgpaaa.Fast.Obj → Bool
  | some (.row l el lo hi) => band (Nat.beq off r.off) (band (Nat.beq n r.n) (band (Nat.beq cap r.cap) (band (Nat.beq g r.g) (band (Nat.beq el r.el) (band (Nat.beq lo r.lo) (band (Nat.beq hi r.hi) (all2 (aeqN 3) r.l l)))))))
  | _ => false
noncomputable def rowAns (r : RowAns) : CR → Bool
  | .ret (.slice b off n cap g) H0 => sameRow r off n cap g (H0.get b)
  | _ => false
noncomputable def rowF (r : RowAns) (args : List AV) (H : Heap) : CR := match args with
  | [] => .ret (.slice H.next r.off r.n r.cap r.g) (H.new (.row r.l r.el r.lo r.hi))
  | _ => .no []
noncomputable def rowK (f0 : Nat) (r : RowAns) (K : Known) : Known := fun f => Bool.rec (K f) (some (rowF r)) (Nat.beq f f0)

theorem sameRow_eq {r : RowAns} {off n cap g : Nat} {o : Option Go.Proofs.Ytlnjikneepgpaaa.Fast.Obj} (h : sameRow r off n cap g o = true) : off = r.off ∧ n = r.n ∧ cap = r.cap ∧ g = r.g ∧ o = some (.row r.l r.el r.lo r.hi) := by
  unfold sameRow at h
  split at h
  · obtain ⟨h1, h⟩ := band_true h
    obtain ⟨h2, h⟩ := band_true h
    obtain ⟨h3, h⟩ := band_true h
    obtain ⟨h4, h⟩ := band_true h
    obtain ⟨h5, h⟩ := band_true h
    obtain ⟨h6, h⟩ := band_true h
    obtain ⟨h7, h⟩ := band_true h
    rw [Nat.eq_of_beq_eq_true h5, Nat.eq_of_beq_eq_true h6, Nat.eq_of_beq_eq_true h7, all2_eq (aeqN_eq 3) h]
    exact ⟨Nat.eq_of_beq_eq_true h1, Nat.eq_of_beq_eq_true h2, Nat.eq_of_beq_eq_true h3, Nat.eq_of_beq_eq_true h4, rfl⟩
  · cases h

theorem call_row {π : Nat → Value} {B : Bd} {P : Program} (hπ : ∀ i, (π i).oneCell' = true) {K : Known} (hK : ∀ B, KnownOk π B P K) (hn : NamesOk P) (hm : P.follows .mixedOrders = true) {m : Nat} {f : FuncId} {r : RowAns}
    (hb : ∃ fn c, P.funcs[f]? = some fn ∧ fn.body = some c) (hr : rowAns r (call P K m f [] Heap.emp) = true) (hv : alls (flatN 2) r.l = true) {σ : Sg} {w : World} {H : Heap} {xs : Array Value}
    (hS : SR π B σ H w) (hl : VRL π σ [] xs.toList) : Calls P f xs w (CallR π B ⟨σ, w, H, []⟩ (.ret (.slice H.next r.off r.n r.cap r.g) (H.new (.row r.l r.el r.lo r.hi)))) := by
  have hl' : VRL π (fun _ => none) [] xs.toList := by
    generalize xs.toList = z at hl
    cases hl
    exact .nil
  have hfine : (call P K m f [] Heap.emp).fine := by
    generalize call P K m f [] Heap.emp = cr at hr
    cases cr with
    | ret _ _ => trivial
    | pan _ _ => cases hr
    | no _ => cases hr
  have hg := call_ok hπ (hK (topB w)) hn hm (n := m) (f := f) (emp_SR w) hl' hfine
  have hk : ∀ b o, Heap.emp.know b ≠ some o := fun b o h => by
    have := know_get h
    exact absurd (show none = some o from this) (by simp)
  generalize call P K m f [] Heap.emp = cr at hr hg
  obtain ⟨rl, rel, rlo, rhi, roff, rn, rcap, rg⟩ := r
  unfold rowAns at hr
  split at hr
  · rename_i b off n cap g H0
    obtain ⟨rfl, rfl, rfl, rfl, hrow⟩ := sameRow_eq hr
    rcases hg with ⟨_, h2⟩ | ⟨y, w', h1, _⟩
    · refine h2.mono fun e w' hq => ?_
      obtain ⟨σ1, x, rfl, hx, hS', hE, hN⟩ := hq
      have hold : ∀ j, j < w.heap.size → w'.heap[j]? = w.heap[j]? := fun j hj => hE.frame j hj fun b o L h => absurd h (hk b o)
      obtain ⟨L, C, e', fr, f1, f2, f3, f4, f5, f6, f7⟩ := Rel.row hS' hrow
      have f2 : w.heap.size ≤ L.blk := f2
      obtain ⟨σ', e1, e2, e3, e4⟩ := SR.move (w' := w') hS (.row rl rel rlo rhi) L (H.new (.row rl rel rlo rhi)) rfl (fun _ => False)
        (fun c u hu => by
          have hd : u ≠ .dead := fun e => by subst e; unfold Heap.know at hu; split at hu <;> simp_all
          rcases Heap.get_new (know_get hu) with h | ⟨k1, k2⟩
          · exact .inl h
          · exact .inr ⟨k1, fun h => h, know_of_get k2 hd⟩)
        (Nat.le_trans hS.base f2) hE.size ⟨hE.os, hE.tape, hE.output⟩
        (fun c u L' _ hu hL => by
          obtain ⟨L2, k1, _, k3⟩ := hS.rel.obj c u hu
          rw [hL] at k1; obtain rfl := Option.some.inj k1
          have := k3.lt
          exact ⟨by omega, hold _ this⟩)
        (fun k hk _ => hold k hk) (fun hlt => absurd hlt (by omega))
        (fun σ' _ => ⟨C, e', fr, f3, f4, ⟨f5.1, fun i v hv' => by
          obtain ⟨y, y1, y2⟩ := f5.2 i v hv'
          exact ⟨y, y1, flat_VR 2 v y (alls_mem hv v (List.mem_of_getElem? hv')) y2⟩⟩, f6, f7⟩)
      refine ⟨σ', x, rfl, ?_, e2, e3, e4⟩
      cases hx with
      | slice _ _ _ _ L2 q1 =>
        rw [f1] at q1
        obtain rfl := Option.some.inj q1
        exact .slice _ _ _ _ _ e1
      | sliceg _ _ _ _ g2 L2 cap' q1 q2 q3 q4 =>
        rw [f1] at q1
        obtain rfl := Option.some.inj q1
        exact .sliceg _ _ _ _ _ _ _ e1 q2 q3 q4
    · exfalso
      obtain ⟨fn, c, h3, h4⟩ := hb
      rw [enter_run hn h3 h4] at h1
      simp at h1
  · cases hr

theorem rowK_ok {π : Nat → Value} {P : Program} (hπ : ∀ i, (π i).oneCell' = true) (hn : NamesOk P) (hm : P.follows .mixedOrders = true) {m f0 : Nat} {r : RowAns} (hb : ∃ fn c, P.funcs[f0]? = some fn ∧ fn.body = some c)
    (hr : rowAns r (call P (fun _ => none) m f0 [] Heap.emp) = true) (hv : alls (flatN 2) r.l = true) {B : Bd} {K : Known} (hK : KnownOk π B P K) : KnownOk π B P (rowK f0 r K) := by
  intro f g hf args H hfine σ w xs hS hl
  unfold rowK at hf
  cases hb2 : Nat.beq f f0 with
  | false => rw [hb2] at hf; exact hK f g hf args H hfine σ w xs hS hl
  | true =>
    rw [hb2] at hf
    obtain rfl := Option.some.inj hf
    obtain rfl := Nat.eq_of_beq_eq_true hb2
    cases args with
    | nil => exact call_row hπ (fun B f g h => by cases h) hn hm hb hr hv hS hl
    | cons _ _ => exact hfine.elim
end Go.Proofs.Ytlnjikneepgpaaa.Fin
