/- store.Get walked. -/
import Derived.Test.YtjmaficiinhjpaaDoorStoBack
import Derived.Test.YtjmaficiinhjpaaDoorStoDig
import Derived.Maps.OwnIn
import Derived.RangeFuncBox
import Derived.Deep.RegionLaw
namespace Go.Proofs.YtjmaficiinhjpaaDoor.G
open Go.RowKit Go.Maps Go.Sort Go.WideMaps Go.Shelf
attribute [local go_sem] Oper.semAt_some

theorem cells_own {β : Type} (B : Nat) (cs : Array Value) (t : TypeId) (fr : Nat × Nat) : Own (fun (_ : β) W => W.heap[B]? = some (.cells cs t fr)) := fun s X Y row hs hg hrow =>
  (hg.block B (Array.getElem?_eq_some_iff.1 hs).1 (fun e' => by
    obtain ⟨o, ho, hc⟩ := hrow B e'.symm
    rw [show X.heap[B]? = _ from hs] at ho
    cases ho
    cases hc)).trans hs
theorem keeps_below {W W' : World} (h : Below W.heap.size W W') (B : Nat) : KeepsFrom B W W' :=
  ⟨h.size, fun k _ _ hk _ => (h.block k (Array.getElem?_eq_some_iff.1 hk).1).trans hk⟩

/-! ### what Get answers -/
def downF (x : ByteArray) : List Fr → Option (Vr × Bool)
  | [] => none
  | f :: r => match lookL f.2.1 x with
    | some v => some (v, true)
    | none => if f.2.2 = true ∧ digitsB x = true then some (zeroV, false) else downF x r
def getR (G : List Vr) (F : List Fr) (x : ByteArray) : Vr × Bool := (downF x F.reverse).getD ((lookL G x).getD zeroV, (lookL G x).isSome)
def missF (x : ByteArray) (f : Fr) : Prop := lookL f.2.1 x = none ∧ ¬ (f.2.2 = true ∧ digitsB x = true)
def stopF (x : ByteArray) (f : Fr) (r : Vr × Bool) : Prop := (lookL f.2.1 x = some r.1 ∧ r.2 = true) ∨ (lookL f.2.1 x = none ∧ f.2.2 = true ∧ digitsB x = true ∧ r = (zeroV, false))
theorem downF_miss {x : ByteArray} : ∀ (l r : List Fr), (∀ f ∈ l, missF x f) → downF x (l ++ r) = downF x r
  | [], _, _ => rfl
  | f :: l, r, h => by
    obtain ⟨h1, h2⟩ := h f (List.mem_cons_self ..)
    show (match lookL f.2.1 x with | some v => _ | none => _) = _
    rw [h1]
    simp only [if_neg h2]
    exact downF_miss l r (fun f hf => h f (List.mem_cons_of_mem _ hf))
theorem downF_stop {x : ByteArray} {f : Fr} {r : List Fr} {u : Vr × Bool} (h : stopF x f u) : downF x (f :: r) = some u := by
  show (match lookL f.2.1 x with | some v => _ | none => _) = _
  rcases h with ⟨h1, h2⟩ | ⟨h1, h2, h3, rfl⟩
  · rw [h1]; simp only []; rw [← h2]
  · rw [h1]; simp [h2, h3]

variable {Fe : Fence} {nF : Nat}
theorem wpListIn_look_var {w : World} {ops : Array Oper} {rest : List Oper} {o : Oper} {a : Act} {Q : Exit → Act → World → Prop} (hg : o.guard = none) (m xo : Operand) (hop : o.op = Op.lookup 51 m xo true) (b n : Nat) (L : List Vr)
    (hm : a.eval m = .map (some b)) (hS : StrMap w b n (lookD L)) (x : ByteArray) (hx : x.size ≤ maxLen) (hxo : a.eval xo = .string x) (u : Vr) (k : Bool) (h1 : (lookL L x).getD zeroV = u) (h2 : (lookL L x).isSome = k)
    (hK : wpListIn Fe nF Tryd.prog ops Q rest (a.put o.dst (.tuple #[.agg #[.string u.name, .string u.val, .int .i64 u.fl, .int .i64 u.og], .bool k])) w) : wpListIn Fe nF Tryd.prog ops Q (o :: rest) a w := by
  obtain ⟨D, hown, hat, hhas⟩ := hS
  refine wpListIn_lookup_own_ok _ hg m xo 51 hop 9 27 str_law Tryd.underlying51 varR (var_zero w) zeroV.datum [] rfl b n D hm hown _ _ hxo (key_mk x hx) ?_
  intro v ps hv
  rw [hat] at hv
  have e : (lookD L x).getD zeroV.datum = ((lookL L x).getD zeroV).datum := by unfold lookD; cases lookL L x <;> rfl
  rw [e, h1] at hv
  have hs : (lookD L x).isSome = (lookL L x).isSome := by unfold lookD; cases lookL L x <;> rfl
  rw [varR_inv hv, hhas, hs, h2]
  exact hK

def stopR (x : ByteArray) (pre : List Fr) (r : Vr × Bool) : Prop := ∃ p0 f, pre = p0 ++ [f] ∧ (∀ f ∈ p0, missF x f) ∧ stopF x f r
def varsHold (W : World) (B : Nat) (u : Vr) (k : Bool) : Prop :=
  (W.cell? ⟨B, 0, none⟩ = some (.string u.name) ∧ W.cell? ⟨B, 1, none⟩ = some (.string u.val) ∧ W.cell? ⟨B, 2, none⟩ = some (.int .i64 u.fl) ∧ W.cell? ⟨B, 3, none⟩ = some (.int .i64 u.og)) ∧ W.cell? ⟨B + 1, 0, none⟩ = some (.bool k)

def storeV (W : World) (B : Nat) (u : Vr) (k : Bool) : World :=
  ((((W.setCell ⟨B, 0, none⟩ (.string u.name)).setCell ⟨B, 1, none⟩ (.string u.val)).setCell ⟨B, 2, none⟩ (.int .i64 u.fl)).setCell ⟨B, 3, none⟩ (.int .i64 u.og)).setCell ⟨B + 1, 0, none⟩ (.bool k)
theorem storeV_others (W : World) (B : Nat) (u : Vr) (k : Bool) : KeepsOthers W (storeV W B u k) :=
  ((((KeepsOthers.setCell _ _ _).trans (KeepsOthers.setCell _ _ _)).trans (KeepsOthers.setCell _ _ _)).trans (KeepsOthers.setCell _ _ _)).trans (KeepsOthers.setCell _ _ _)
theorem storeV_below {n₀ : Nat} {w W : World} (h : Below n₀ w W) {B : Nat} (hB : n₀ ≤ B) (u : Vr) (k : Bool) : Below n₀ w (storeV W B u k) :=
  ((((h.setCell (p := ⟨B, 0, none⟩) hB _).setCell (p := ⟨B, 1, none⟩) hB _).setCell (p := ⟨B, 2, none⟩) hB _).setCell (p := ⟨B, 3, none⟩) hB _).setCell (p := ⟨B + 1, 0, none⟩) (Nat.le_succ_of_le hB) _
theorem four_facts {W : World} {B : Nat} {t : TypeId} {a b c d : Value} (h : W.heap[B]? = some (.cells #[a, b, c, d] t (0, 0))) :
    (W.cell? ⟨B, 0, none⟩ = some a ∧ W.cell? ⟨B, 1, none⟩ = some b ∧ W.cell? ⟨B, 2, none⟩ = some c ∧ W.cell? ⟨B, 3, none⟩ = some d) ∧ W.frozen? ⟨B, 0, none⟩ = false ∧ W.frozen? ⟨B, 1, none⟩ = false ∧ W.frozen? ⟨B, 2, none⟩ = false ∧ W.frozen? ⟨B, 3, none⟩ = false :=
  ⟨⟨by rw [cell_of_block h]; rfl, by rw [cell_of_block h]; rfl, by rw [cell_of_block h]; rfl, by rw [cell_of_block h]; rfl⟩, frozen_of_block h, frozen_of_block h, frozen_of_block h, frozen_of_block h⟩
theorem storeV_hold {W : World} {B : Nat} {t t2 : TypeId} {a b c d e : Value} (h : W.heap[B]? = some (.cells #[a, b, c, d] t (0, 0))) (h2 : Boxed W (B + 1) t2 e) (u : Vr) (k : Bool) : varsHold (storeV W B u k) B u k := by
  obtain ⟨⟨h0, h1, h3, h4⟩, _⟩ := four_facts h
  have h5 := h2.cell
  unfold varsHold storeV
  refine ⟨⟨?_, ?_, ?_, ?_⟩, ?_⟩
  · rw [World.cell?_setCell_other _ _ _ _ (by simp), World.cell?_setCell_other _ _ _ _ (by simp), World.cell?_setCell_other _ _ _ _ (by simp), World.cell?_setCell_other _ _ _ _ (by simp)]
    exact World.cell?_setCell_same _ _ _ h0
  · rw [World.cell?_setCell_other _ _ _ _ (by simp), World.cell?_setCell_other _ _ _ _ (by simp), World.cell?_setCell_other _ _ _ _ (by simp)]
    exact World.cell?_setCell_same _ _ _ (by rw [World.cell?_setCell_other _ _ _ _ (by simp)]; exact h1)
  · rw [World.cell?_setCell_other _ _ _ _ (by simp), World.cell?_setCell_other _ _ _ _ (by simp)]
    exact World.cell?_setCell_same _ _ _ (by rw [World.cell?_setCell_other _ _ _ _ (by simp), World.cell?_setCell_other _ _ _ _ (by simp)]; exact h3)
  · rw [World.cell?_setCell_other _ _ _ _ (by simp)]
    exact World.cell?_setCell_same _ _ _ (by rw [World.cell?_setCell_other _ _ _ _ (by simp), World.cell?_setCell_other _ _ _ _ (by simp), World.cell?_setCell_other _ _ _ _ (by simp)]; exact h4)
  · exact World.cell?_setCell_same _ _ _ (by rw [World.cell?_setCell_other _ _ _ _ (by simp), World.cell?_setCell_other _ _ _ _ (by simp), World.cell?_setCell_other _ _ _ _ (by simp), World.cell?_setCell_other _ _ _ _ (by simp)]; exact h5)
theorem varsHold_kept {W W' : World} {B : Nat} {u : Vr} {k : Bool} (h : varsHold W B u k) (h1 : W'.heap[B]? = W.heap[B]?) (h2 : W'.heap[B + 1]? = W.heap[B + 1]?) : varsHold W' B u k :=
  ⟨⟨(cells_kept h1).trans h.1.1, (cells_kept h1).trans h.1.2.1, (cells_kept h1).trans h.1.2.2.1, (cells_kept h1).trans h.1.2.2.2⟩, (cells_kept h2).trans h.2⟩
theorem storeV_size (W : World) (B : Nat) (u : Vr) (k : Bool) : (storeV W B u k).heap.size = W.heap.size := by simp [storeV, World.setCell]
theorem run_look_var {w : World} (b n : Nat) (L : List Vr) (hS : StrMap w b n (lookD L)) (x : ByteArray) (hx : x.size ≤ maxLen) (u : Vr) (k : Bool) (h1 : (lookL L x).getD zeroV = u) (h2 : (lookL L x).isSome = k) :
    (Instr.lookup 51 (.map (some b)) (.string x) true).run Tryd.prog w = .ok (.tuple #[.agg #[.string u.name, .string u.val, .int .i64 u.fl, .int .i64 u.og], .bool k]) w := by
  obtain ⟨D, hown, hat, hhas⟩ := hS
  obtain ⟨v, ps, hrun, hv⟩ := hown.look_ok str_law Tryd.underlying51 (var_zero w) (show varR (.agg #[.string ⟨#[]⟩, .string ⟨#[]⟩, .int .i64 0, .int .i64 0]) = some (zeroV.datum, []) from rfl) (key_mk x hx)
  rw [hat] at hv
  have e : (lookD L x).getD zeroV.datum = ((lookL L x).getD zeroV).datum := by unfold lookD; cases lookL L x <;> rfl
  rw [e, h1] at hv
  have hs : (lookD L x).isSome = (lookL L x).isSome := by unfold lookD; cases lookL L x <;> rfl
  rw [varR_inv hv, hhas, hs, h2] at hrun
  exact hrun

set_option maxHeartbeats 8000000 in
set_option maxRecDepth 100000 in
theorem Get.calls {base : Nat} {w : World} {sb n : Nat} {G : List Vr} {F : List Fr} {turns : Int} {gm : Nat} {fv : Value} (h : StoreV base w sb n G F turns gm fv) (x : ByteArray) (hx : x.size ≤ maxLen) :
    Calls Tryd.prog 11 #[.pointer (some ⟨sb, 0, none⟩), .string x] w fun e w' => e = .returned (.tuple #[.agg #[.string (getR G F x).1.name, .string (getR G F x).1.val, .int .i64 (getR G F x).1.fl, .int .i64 (getR G F x).1.og], .bool (getR G F x).2]) ∧ Below w.heap.size w w' := by
  refine (callsIn_wide (n := 6)).1 ?_
  have c2 := h.c2
  have hsz := h.hsz
  refine callsIn_of_wp_marks Tryd.func11 rfl trivial ?_ rfl
  simp only [Tryd.ntmps11, List.size_toArray, List.length_cons, List.length_nil, Nat.reduceAdd, Nat.reduceSub, Array.replicate_succ, Array.replicate_zero, List.push_toArray, List.append_toArray, List.nil_append, List.cons_append]
  obtain ⟨fa, fc, hfv⟩ : ∃ a c, fv = .slice a F.length c := by
    rcases h.row.2 with ⟨rfl, h0⟩ | ⟨g, cap, cur, rfl, _⟩
    · exact ⟨_, _, by rw [h0]⟩
    · exact ⟨_, _, rfl⟩
  subst hfv
  obtain ⟨W0, hW0⟩ : ∃ W0, ((w.alloc (.cells #[.string x] 9)).alloc (.cells #[.string ⟨#[]⟩, .string ⟨#[]⟩, .int .i64 0, .int .i64 0] 27)).alloc (.cells #[.bool false] 4) = W0 := ⟨_, rfl⟩
  have hs0 : W0.heap.size = w.heap.size + 3 := by rw [← hW0]; simp
  have hB0 : Below w.heap.size w W0 := by rw [← hW0]; exact (((Below.refl _ w).alloc (Nat.le_refl _) _).alloc (by simp) _).alloc (by simp; omega) _
  have b0 : Boxed W0 w.heap.size 9 (.string x) := by
    rw [← hW0]; exact ((Boxed.new w _ _).alloc _).alloc _
  have b1 : W0.heap[w.heap.size + 1]? = some (.cells #[.string ⟨#[]⟩, .string ⟨#[]⟩, .int .i64 0, .int .i64 0] 27 (0, 0)) := by
    rw [← hW0]; refine (Below.heap_alloc _ _ _ (by simp)).trans ?_
    have := heap_alloc_new (w.alloc (.cells #[.string x] 9)) (.cells #[.string ⟨#[]⟩, .string ⟨#[]⟩, .int .i64 0, .int .i64 0] 27); rwa [World.size_alloc] at this
  have b2 : Boxed W0 (w.heap.size + 2) 4 (.bool false) := by
    rw [← hW0]; have := Boxed.new ((w.alloc (.cells #[.string x] 9)).alloc (.cells #[.string ⟨#[]⟩, .string ⟨#[]⟩, .int .i64 0, .int .i64 0] 27)) 4 (.bool false); rw [World.size_alloc, World.size_alloc] at this; exact this
  have c2' := (hB0.cell (p := ⟨sb, 2, none⟩) hsz).trans c2
  have H := Lib.hid (h.later hB0)
  have HW := Lib.hid h
  have HB := Lib.hid hB0
  have HB0 := Lib.hid b0
  have HB1 := Lib.hid b1
  have HB2 := Lib.hid b2
  clear h hB0 b0 b1 b2 c2
  gi_wp2_with (refine ⟨trivial, ?_⟩; gi_at_call 24; refine (back_in Fence.wide _ trivial rfl _ _ _ _).mono ?_; rintro e w' ⟨rfl, rfl⟩)
  clear hW0
  have bS := Boxed.new W0 55 (.slice fa F.length fc)
  rw [hs0] at bS
  have hsz1 : (W0.alloc (.cells #[(.slice fa F.length fc)] 55)).heap.size = w.heap.size + 4 := by simp; omega
  have hB1 := HB.out.alloc (by omega) (.cells #[(.slice fa F.length fc)] 55)
  have hH1 := H.out.later ((Below.refl _ W0).alloc (Nat.le_refl _) (.cells #[(.slice fa F.length fc)] 55))
  have d0 := HB0.out.alloc (.cells #[(.slice fa F.length fc)] 55)
  have d1 := (Below.heap_alloc W0 (.cells #[(.slice fa F.length fc)] 55) (w.heap.size + 1) (by omega)).trans HB1.out
  have d2 := HB2.out.alloc (.cells #[(.slice fa F.length fc)] 55)
  obtain ⟨W1, hW1⟩ : ∃ W1, W0.alloc (.cells #[(.slice fa F.length fc)] 55) = W1 := ⟨_, rfl⟩
  rw [hW1] at bS hsz1 hB1 hH1 d0 d1 d2 ⊢
  clear hW1 HB0 HB1 HB2 HB H c2'
  have hfoot := fun k hk => (hH1.footz k hk)
  have HH := Lib.hid hH1
  refine wpIn_rangeFunc_ownH rfl (by decide) (gf := 35) (lb := #[.pointer (some ⟨w.heap.size + 3, 0, none⟩)]) rfl trivial (enters_of Tryd.func35 (by kernel_rfl) rfl)
    (back_stops Fence.wide _ trivial rfl (by decide) (w.heap.size + 3) w.heap.size base (.slice fa F.length fc) F hH1.len W1 (by omega) (by omega) bS.cell hH1.row (fun b hb => (HW.out.row.lt b hb).2)) KeepBack.trans (KeepBack.turn (by omega) (by omega)) (Below.refl _ _) (fun _ => rfl)
    (fun pre W => ((((∀ f ∈ pre.map (fun y => y.2.1), missF x f) ∧ Boxed W w.heap.size 9 (.string x)) ∧ W.heap[w.heap.size + 1]? = some (.cells #[.string ⟨#[]⟩, .string ⟨#[]⟩, .int .i64 0, .int .i64 0] 27 (0, 0))) ∧ Boxed W (w.heap.size + 2) 4 (.bool false)) ∧ (Below w.heap.size w W ∧ w.heap.size + 3 < W.heap.size))
    (fun c pre W => (c = .ret ∧ ∃ u k, stopR x (pre.map (fun y => y.2.1)) (u, k) ∧ varsHold W (w.heap.size + 1) u k) ∧ Below w.heap.size w W)
    (OwnFrom.and (OwnFrom.and (OwnFrom.and (OwnFrom.and (ownFrom_pure _ _) (Own.from (boxed_own _ _ _) _)) (Own.from (cells_own _ _ _ _) _)) (Own.from (boxed_own _ _ _) _)) (OwnFrom.and (ownFrom_below (Nat.le_refl _) (by omega)) (fun _ _ _ _ hs hg _ => Nat.lt_of_lt_of_le hs hg.size)))
    (fun c => OwnFrom.and (Own.from (fun s A B row hs hg hr => by
      obtain ⟨h1, u, k, h2, ⟨h3, h4, h5, h6⟩, h7⟩ := hs
      exact ⟨h1, u, k, h2, ⟨cell_kept h3 hg hr, cell_kept h4 hg hr, cell_kept h5 hg hr, cell_kept h6 hg hr⟩, cell_kept h7 hg hr⟩) _) (ownFrom_below (Nat.le_refl _) (by omega)))
    ⟨⟨⟨⟨by simp, d0⟩, d1⟩, d2⟩, hB1, by omega⟩
    (fun y a' W => ∃ Bx, w.heap.size + 3 < Bx ∧ W.heap[Bx]? = some (.cells #[.map (some y.2.1.1), .bool y.2.1.2.2] 53 (0, 0)) ∧ a' = { tmps := #[.pointer (some ⟨sb, 0, none⟩), .string x, undef, .pointer (some ⟨w.heap.size, 0, none⟩), .pointer (some ⟨w.heap.size + 1, 0, none⟩), .pointer (some ⟨w.heap.size + 1 + 1, 0, none⟩), undef, .pointer (some ⟨Bx, 0, none⟩), undef, undef, undef, undef, .pointer (some ⟨sb, 0, none⟩), .pointer (some ⟨sb, 0, none⟩), .pointer (some ⟨sb, 2, none⟩), .pointer (some ⟨sb, 2, none⟩), .slice fa F.length fc, .func (.func 35) #[] #[.pointer (some ⟨w.heap.size + 3, 0, none⟩)], .int .i64 (y.1 : Int), .agg #[.map (some y.2.1.1), .bool y.2.1.2.2], undef, undef, undef, undef, undef, undef, undef, undef, undef, undef, undef, undef, undef, undef, undef, undef, undef, undef, undef, undef, undef, undef, undef, undef, undef, undef, undef, undef], defers := [] })
    (fun y a' _ X Y row hs hg hr => by obtain ⟨Bx, h1, h2, h3⟩ := hs; exact ⟨Bx, h1, cells_own Bx _ _ _ () X Y row h2 hg (fun r e => (hr r e).2), h3⟩)
    ?assign ?body ?done ?stop
  case assign =>
    rintro l pre y W K ⟨⟨⟨⟨hp, e0⟩, e1⟩, e2⟩, hBW, hs3⟩ hK
    dsimp only [encFr]
    gi_wp2
    have hlt2 : w.heap.size + 2 < W.heap.size := e2.lt
    exact hK _ _ ((KeepsOthers.alloc _ _).from _) ⟨Below.heap_alloc _ _ _ hs3, (Below.refl _ W).alloc (by omega) _⟩ ⟨⟨⟨⟨hp, e0.alloc _⟩, (Below.heap_alloc _ _ _ (by omega)).trans e1⟩, e2.alloc _⟩, hBW.alloc hBW.size _, by simp; omega⟩ ⟨W.heap.size, hs3, heap_alloc_new _ _, rfl⟩
  case body =>
    rintro l pre ⟨i, f, hf⟩ a' W hl ⟨r, hr⟩ ⟨⟨⟨⟨hp, e0⟩, e1⟩, e2⟩, hBW, hs3⟩ ⟨Bx, hBx, bX, rfl⟩ hlt
    dsimp only at bX ⊢
    obtain ⟨⟨k, hm⟩, hfr⟩ := (HW.out.later hBW).fm f hf
    have hlt0 : w.heap.size < W.heap.size := e0.lt
    have hlt1 : w.heap.size + 1 < W.heap.size := (Array.getElem?_eq_some_iff.1 e1).1
    have hlt2 : w.heap.size + 2 < W.heap.size := e2.lt
    have hBx2 : Bx < W.heap.size := (Array.getElem?_eq_some_iff.1 bX).1
    have x0 := cell_of_block (j := 0) bX
    have x1 := cell_of_block (j := 1) bX
    have v0 := cell_of_block (j := 0) e1
    have v1 := cell_of_block (j := 1) e1
    have v2 := cell_of_block (j := 2) e1
    have v3 := cell_of_block (j := 3) e1
    have g0 := frozen_of_block (j := 0) e1
    have g1 := frozen_of_block (j := 1) e1
    have g2 := frozen_of_block (j := 2) e1
    have g3 := frozen_of_block (j := 3) e1
    simp only [List.getElem?_toArray, List.getElem?_cons_zero, List.getElem?_cons_succ] at x0 x1 v0 v1 v2 v3
    have n0 := e0.cell
    have k0 := e2.cell
    have k1 := e2.frozen
    have HM := Lib.hid hm
    have HR := Lib.hid hr
    have HE0 := Lib.hid e0
    have HE1 := Lib.hid e1
    have HE2 := Lib.hid e2
    have HBW := Lib.hid hBW
    have HP := Lib.hid hp
    clear hm hr e0 e1 e2 bX hBW hp hfr
    cases hv : lookL f.2.1 x with
    | some v =>
      gi_wp2_with (gi_at_lookup; refine wpListIn_look_var rfl _ _ rfl f.1 k f.2.1 rfl HM.out x hx rfl v true (by rw [hv]; rfl) (by rw [hv]; rfl) ?_)
      have hBelow := storeV_below HBW.out (B := w.heap.size + 1) (by omega) v true
      refine ⟨((storeV_others W (w.heap.size + 1) v true).trans (KeepsOthers.alloc _ _)).from _, ⟨rfl, v, true, ⟨pre.map (fun y => y.2.1), f, by simp, HP.out, Or.inl ⟨hv, rfl⟩⟩, varsHold_kept (storeV_hold HE1.out HE2.out v true) (Below.heap_alloc (storeV W (w.heap.size + 1) v true) _ _ (by rw [storeV_size]; omega)) (Below.heap_alloc (storeV W (w.heap.size + 1) v true) _ _ (by rw [storeV_size]; omega))⟩, hBelow.alloc hBelow.size _⟩
    | none =>
      cases hcall : f.2.2 with
      | false =>
        rw [hcall] at x1
        gi_wp2_with (gi_at_lookup; refine wpListIn_look_var rfl _ _ rfl f.1 k f.2.1 rfl HM.out x hx rfl zeroV false (by rw [hv]; rfl) (by rw [hv]; rfl) ?_)
        refine ⟨trivial, ?_⟩
        gi_wp2
        exact ⟨(KeepsOthers.alloc _ _).from _, ⟨Below.heap_alloc _ _ _ (by omega), (Below.refl _ W).alloc (by omega) _⟩, ⟨⟨⟨(fun g hg => by
          rw [List.map_append] at hg
          rcases List.mem_append.mp hg with hg | hg
          · exact HP.out g hg
          · obtain rfl := List.mem_singleton.mp hg
            exact ⟨hv, fun h => by rw [hcall] at h; cases h.1⟩), HE0.out.alloc _⟩, (Below.heap_alloc _ _ _ hlt1).trans HE1.out⟩, HE2.out.alloc _⟩, HBW.out.alloc HBW.out.size _, by simp; omega⟩
      | true =>
        rw [hcall] at x1
        cases hdig : digitsB x with
        | true =>
          gi_wp2_with (first | (gi_at_lookup; refine wpListIn_look_var rfl _ _ rfl f.1 k f.2.1 rfl HM.out x hx rfl zeroV false (by rw [hv]; rfl) (by rw [hv]; rfl) ?_) | (refine ⟨trivial, ?_⟩; gi_at_call 25; refine (CallsIn.inRound l (callsIn_wide.2 (digits_calls x _ (by unfold maxLen at hx; omega)))).mono ?_; rintro e w2 ⟨rfl, hB2⟩; rw [hdig]; have hB3 : Below W.heap.size W w2 := ((Below.refl _ W).alloc (Nat.le_refl _) _).trans (hB2.mono (by simp)); have E1 := (hB3.block (w.heap.size + 1) hlt1).trans HE1.out; have E2 : Boxed w2 (w.heap.size + 2) 4 (.bool false) := (hB3.block (w.heap.size + 2) hlt2).trans HE2.out; have E0 : Boxed w2 w.heap.size 9 (.string x) := (hB3.block w.heap.size hlt0).trans HE0.out; obtain ⟨⟨v0', v1', v2', v3'⟩, g0', g1', g2', g3'⟩ := four_facts E1; have k0' := E2.cell; have k1' := E2.frozen; have HB3 := Lib.hid hB3; have HF1 := Lib.hid E1; have HF2 := Lib.hid E2; have HF0 := Lib.hid E0; clear hB2 hB3 E1 E2 E0))
          have hBelow := storeV_below (HBW.out.trans (HB3.out.mono HBW.out.size)) (B := w.heap.size + 1) (by omega) zeroV false
          exact ⟨((keeps_below HB3.out _).trans ((storeV_others w2 (w.heap.size + 1) zeroV false).from _)), ⟨rfl, zeroV, false, ⟨pre.map (fun y => y.2.1), f, by simp, HP.out, Or.inr ⟨hv, hcall, hdig, rfl⟩⟩, storeV_hold HF1.out HF2.out zeroV false⟩, hBelow⟩
        | false =>
          gi_wp2_with (first | (gi_at_lookup; refine wpListIn_look_var rfl _ _ rfl f.1 k f.2.1 rfl HM.out x hx rfl zeroV false (by rw [hv]; rfl) (by rw [hv]; rfl) ?_) | (refine ⟨trivial, ?_⟩; gi_at_call 25; refine (CallsIn.inRound l (callsIn_wide.2 (digits_calls x _ (by unfold maxLen at hx; omega)))).mono ?_; rintro e w2 ⟨rfl, hB2⟩; rw [hdig]; have hB3 : Below W.heap.size W w2 := ((Below.refl _ W).alloc (Nat.le_refl _) _).trans (hB2.mono (by simp)); have E1 := (hB3.block (w.heap.size + 1) hlt1).trans HE1.out; have E2 : Boxed w2 (w.heap.size + 2) 4 (.bool false) := (hB3.block (w.heap.size + 2) hlt2).trans HE2.out; have E0 : Boxed w2 w.heap.size 9 (.string x) := (hB3.block w.heap.size hlt0).trans HE0.out; obtain ⟨⟨v0', v1', v2', v3'⟩, g0', g1', g2', g3'⟩ := four_facts E1; have k0' := E2.cell; have k1' := E2.frozen; have HB3 := Lib.hid hB3; have HF1 := Lib.hid E1; have HF2 := Lib.hid E2; have HF0 := Lib.hid E0; clear hB2 hB3 E1 E2 E0))
          exact ⟨keeps_below HB3.out _, ⟨HB3.out.block _ (by omega), HB3.out.mono (by omega)⟩, ⟨⟨⟨(fun g hg => by
            rw [List.map_append] at hg
            rcases List.mem_append.mp hg with hg | hg
            · exact HP.out g hg
            · obtain rfl := List.mem_singleton.mp hg
              exact ⟨hv, fun h => by rw [hdig] at h; cases h.2⟩), HF0.out⟩, HF1.out⟩, HF2.out⟩, HBW.out.trans (HB3.out.mono HBW.out.size), Nat.lt_of_lt_of_le hs3 HB3.out.size⟩
  case done =>
    rintro D ys W hD rfl ⟨⟨⟨⟨hp, e0⟩, e1⟩, e2⟩, hBW, hs3⟩ hK
    gi_wp2
    have h0 := (HW.out.later hBW)
    have HM := Lib.hid h0.mp
    have c0 := h0.c0
    have n0 := e0.cell
    have hlt0 : w.heap.size < W.heap.size := e0.lt
    have hlt1 : w.heap.size + 1 < W.heap.size := (Array.getElem?_eq_some_iff.1 e1).1
    have hlt2 : w.heap.size + 2 < W.heap.size := e2.lt
    have hsW : sb < W.heap.size := h0.hsz
    obtain ⟨⟨v0, v1, v2, v3⟩, g0, g1, g2, g3⟩ := four_facts e1
    have k0 := e2.cell
    have k1 := e2.frozen
    have HE1 := Lib.hid e1
    have HE2 := Lib.hid e2
    clear h0 e0 e1 e2
    obtain ⟨u, hu⟩ : ∃ u, u = (lookL G x).getD zeroV := ⟨_, rfl⟩
    obtain ⟨kb, hkb⟩ : ∃ b, b = (lookL G x).isSome := ⟨_, rfl⟩
    have hl1 := run_look_var (w := W.drew) gm n G (HM.out.kept rfl) x hx u kb hu.symm hkb.symm
    have hl2 := fun o : Obj => run_look_var (w := (W.alloc o).drew) gm n G (HM.out.kept (Below.heap_alloc W o gm HM.out.lt)) x hx u kb hu.symm hkb.symm
    have HU := Lib.hid hu
    have HKB := Lib.hid hkb
    clear hu hkb
    refine Code.wpIn_mono (Q := fun e a' W' => match e with | .normal => a' = { tmps := #[.pointer (some ⟨sb, 0, none⟩), .string x, undef, .pointer (some ⟨w.heap.size, 0, none⟩), .pointer (some ⟨w.heap.size + 1, 0, none⟩), .pointer (some ⟨w.heap.size + 1 + 1, 0, none⟩), undef, undef, undef, undef, .pointer (some ⟨W.heap.size, 0, none⟩), .bool kb, .pointer (some ⟨sb, 0, none⟩), .pointer (some ⟨sb, 0, none⟩), .pointer (some ⟨sb, 2, none⟩), .pointer (some ⟨sb, 2, none⟩), .slice fa F.length fc, .func (.func 35) #[] #[.pointer (some ⟨w.heap.size + 3, 0, none⟩)], undef, undef, undef, undef, undef, undef, undef, undef, undef, undef, undef, undef, undef, undef, undef, undef, undef, undef, .tuple #[.agg #[.string u.name, .string u.val, .int .i64 u.fl, .int .i64 u.og], .bool kb], .pointer (some ⟨sb, 0, none⟩), .pointer (some ⟨sb, 0, none⟩), .pointer (some ⟨sb, 0, none⟩), .pointer (some ⟨sb, 0, none⟩), .map (some gm), .string x, .tuple #[.agg #[.string u.name, .string u.val, .int .i64 u.fl, .int .i64 u.og], .bool kb], .agg #[.string u.name, .string u.val, .int .i64 u.fl, .int .i64 u.og], .bool kb, undef, undef], defers := [{ target := .collected D, args := #[] }] } ∧ W' = W.drew.alloc (.cells #[.string u.name, .string u.val, .int .i64 u.fl, .int .i64 u.og] 27) | _ => False) ?_ (wpIn_wide.2 ?_)
    rotate_left
    · go_region
      all_goals exact ⟨rfl, rfl⟩
    · intro e a' W' he
      cases e <;> first | exact he.elim | skip
      obtain ⟨rfl, rfl⟩ := he
      gi_wp2
      have hs0 := storeV_hold HE1.out HE2.out u kb
      have hKs := ((storeV_others W (w.heap.size + 1) u kb).trans (KeepsOthers.alloc _ (.cells #[.string u.name, .string u.val, .int .i64 u.fl, .int .i64 u.og] 27))).same D _ hK rfl
      have hBs0 := storeV_below hBW (B := w.heap.size + 1) (by omega) u kb
      have hBs := Below.drew (hBs0.alloc hBs0.size (.cells #[.string u.name, .string u.val, .int .i64 u.fl, .int .i64 u.og] 27))
      have hVs : varsHold ((storeV W (w.heap.size + 1) u kb).alloc (.cells #[.string u.name, .string u.val, .int .i64 u.fl, .int .i64 u.og] 27)).drew (w.heap.size + 1) u kb := varsHold_kept hs0 (Below.heap_alloc (storeV W (w.heap.size + 1) u kb) _ _ (by rw [storeV_size]; omega)) (Below.heap_alloc (storeV W (w.heap.size + 1) u kb) _ _ (by rw [storeV_size]; omega))
      change bodyPostM _ _ _ _ _ _ _ ((storeV W (w.heap.size + 1) u kb).alloc (.cells #[.string u.name, .string u.val, .int .i64 u.fl, .int .i64 u.og] 27)).drew
      replace hKs : ((storeV W (w.heap.size + 1) u kb).alloc (.cells #[.string u.name, .string u.val, .int .i64 u.fl, .int .i64 u.og] 27)).drew.heap[D]? = some (.deferred (some [])) := hKs
      generalize ((storeV W (w.heap.size + 1) u kb).alloc (.cells #[.string u.name, .string u.val, .int .i64 u.fl, .int .i64 u.og] 27)).drew = V at hKs hBs hVs ⊢
      refine ⟨by simp, .inl ⟨_, _, rfl, run_takeDeferred hKs, ?_⟩⟩
      have hP := fun {j : Nat} {B : Nat} {v : Value} (h : V.cell? ⟨B, j, none⟩ = some v) => cell_kept h (grownBy_putObj' _ D (.deferred none)) (fun r e => by cases e; exact ⟨_, hKs, rfl⟩)
      have q0 := hP hVs.1.1
      have q1 := hP hVs.1.2.1
      have q2 := hP hVs.1.2.2.1
      have q3 := hP hVs.1.2.2.2
      have q4 := hP hVs.2
      have hR : getR G F x = (u, kb) := by
        unfold getR
        rw [← frXs_is, show (frXs F).map (fun y => y.2.1) = (frXs F).map (fun y => y.2.1) ++ [] by simp, downF_miss _ _ hp, HU.out, HKB.out]
        rfl
      refine ⟨.tuple #[.agg #[.string u.name, .string u.val, .int .i64 u.fl, .int .i64 u.og], .bool kb], ?_, by rw [hR], hBs.trans (belowK_b (w := w) (Nat.le_refl _) V D _ _ (by omega) hKs rfl rfl)⟩
      simp [results, Tryd.f11, go_sem, q0, q1, q2, q3, q4]
  case stop =>
    rintro D c pre W hD ⟨k, rfl⟩ ⟨⟨rfl, u, b, hst, hvs⟩, hBW⟩ hK
    gi_wp2
    refine ⟨by simp, .inl ⟨_, _, rfl, run_takeDeferred hK, ?_⟩⟩
    have hP := fun {j : Nat} {B : Nat} {v : Value} (h : W.cell? ⟨B, j, none⟩ = some v) => cell_kept h (grownBy_putObj' _ D (.deferred none)) (fun r e => by cases e; exact ⟨_, hK, rfl⟩)
    have q0 := hP hvs.1.1
    have q1 := hP hvs.1.2.1
    have q2 := hP hvs.1.2.2.1
    have q3 := hP hvs.1.2.2.2
    have q4 := hP hvs.2
    have hR : getR G F x = (u, b) := by
      obtain ⟨p0, f, h1, h2, h3⟩ := hst
      unfold getR
      have hX : (frXs F).map (fun y => y.2.1) = p0 ++ ([f] ++ ((frXs F).drop k).map (fun y => y.2.1)) := by
        rw [← List.append_assoc, ← h1, ← List.map_append, List.take_append_drop]
      rw [← frXs_is, hX, downF_miss _ _ h2]
      show (downF x (f :: _)).getD _ = _
      rw [downF_stop h3]; rfl
    refine ⟨.tuple #[.agg #[.string u.name, .string u.val, .int .i64 u.fl, .int .i64 u.og], .bool b], ?_, by rw [hR], hBW.trans (belowK_b (w := w) (Nat.le_refl _) W D _ _ (by omega) hK rfl rfl)⟩
    simp [results, Tryd.f11, go_sem, q0, q1, q2, q3, q4]
end Go.Proofs.YtjmaficiinhjpaaDoor.G
