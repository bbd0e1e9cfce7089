/- slices.Backward at the frames: the iterator's contract. -/
import Derived.Test.YtjmaficiinhjpaaDoorStoOps
import Derived.RangeFuncNested
import Derived.RangeFuncBound
import Derived.RangeFuncCalls
import Derived.RangeFuncLeaves
import Derived.Shelf.Abstract
import Derived.Shelf.RegionOpen
import Derived.WalkKit
import Derived.OwnWalkIn
import Derived.TacticsInMore
import Derived.LoopNIn
import Derived.LoopIn
namespace Go.Proofs.YtjmaficiinhjpaaDoor.G
open Go.RowKit Go.Maps Go.Sort Go.WideMaps Go.Shelf
attribute [local go_sem] Oper.semAt_some

/-- What a round of Get keeps: the slice's box, and what lay ahead of the call. -/
def KeepBack (Bs n₀ : Nat) (W W' : World) : Prop := W'.heap[Bs]? = W.heap[Bs]? ∧ Below n₀ W W'
theorem KeepBack.trans {Bs n₀ : Nat} {A B C : World} (h : KeepBack Bs n₀ A B) (k : KeepBack Bs n₀ B C) : KeepBack Bs n₀ A C := ⟨k.1.trans h.1, h.2.trans k.2⟩
theorem KeepBack.turn {Bs n₀ : Nat} {w : World} (hB : Bs < w.heap.size) (hn : n₀ ≤ w.heap.size) (W : World) (l : Nat) (o o' : Obj) (hl : w.heap.size ≤ l) (h : W.heap[l]? = some o) (h1 : o.isCells = false) (h2 : o.isWalk = false) : KeepBack Bs n₀ W (W.putObj l o') :=
  ⟨(grownBy_putObj' W l o').block Bs (by have := (Array.getElem?_eq_some_iff.1 h).1; omega) (fun e => by cases e; omega), belowK_b hn W l o o' hl h h1 h2⟩

/-- A frame as the loop gets it: its index, itself. -/
abbrev FrAt (F : List Fr) := Nat × { f : Fr // f ∈ F }
def encFr {F : List Fr} (x : FrAt F) : Array Value := #[.int .i64 (x.1 : Int), .agg #[.map (some x.2.1.1), .bool x.2.1.2.2]]
/-- The frames from the top. -/
def frXs (F : List Fr) : List (FrAt F) := List.ofFn (fun k : Fin F.length => (F.length - 1 - k.1, ⟨F[F.length - 1 - k.1]'(by have := k.2; omega), List.getElem_mem _⟩))
theorem frXs_length (F : List Fr) : (frXs F).length = F.length := by simp [frXs]
theorem frXs_at (F : List Fr) (m : Nat) (f : Fr) (h : F[m]? = some f) : (frXs F)[F.length - (m + 1)]? = some (m, ⟨f, List.mem_of_getElem? h⟩) := by
  obtain ⟨hm, he⟩ := List.getElem?_eq_some_iff.mp h
  unfold frXs
  rw [List.getElem?_ofFn, dif_pos (by omega)]
  have e : F.length - 1 - (F.length - (m + 1)) = m := by omega
  simp only [e, he]
theorem frXs_is (F : List Fr) : (frXs F).map (fun x => x.2.1) = F.reverse := by
  apply List.ext_getElem
  · simp [frXs]
  · intro i h1 h2
    simp [frXs, List.getElem_reverse]

set_option maxRecDepth 100000 in
set_option maxHeartbeats 2000000 in
theorem back1_in (Fe : Fence) (n : Nat) (h8 : Fe.fn 35) (hro : Fe.round = none) (hn : 1 ≤ n) (l Bs n₀ b cap : Nat) (F : List Fr) (hlen : F.length ≤ 1000) (hb : b < n₀) (J Jx : List (FrAt F) → World → Prop)
    (hY : ∀ pre x W, J pre W → pre.length < F.length → YieldAt Fe (n - 1) Tryd.prog l (encFr x) W fun e W' =>
      (e = .returned (.bool true) ∧ J (pre ++ [x]) W' ∧ KeepBack Bs n₀ W W') ∨ (e = .returned (.bool false) ∧ Jx (pre ++ [x]) W'))
    (W : World) (hBs : W.cell? ⟨Bs, 0, none⟩ = some (.slice (some ⟨b, 0, none⟩) F.length cap))
    (hc : ∀ j f, F[j]? = some f → W.cell? ⟨b, j * 2, none⟩ = some (.map (some f.1)) ∧ W.cell? ⟨b, j * 2 + 1, none⟩ = some (.bool f.2.2)) (h0 : J [] W) :
    CallsIn Fe n Tryd.prog 35 #[.func (.yield l) #[] #[], .pointer (some ⟨Bs, 0, none⟩)] W fun e W' => (∃ v, e = .returned v) ∧
      ((∃ ys, ys = frXs F ∧ J ys W') ∨ (∃ pre, (∃ k, pre = (frXs F).take k) ∧ Jx pre W')) := by
  refine callsIn_of_wp Tryd.func35 rfl h8 ?_ hro
  simp only [Tryd.ntmps35, List.size_toArray, List.length_cons, List.length_nil, Nat.reduceAdd, Nat.reduceSub, Array.replicate_succ, Array.replicate_zero, List.push_toArray, List.append_toArray, List.nil_append, List.cons_append]
  have hw0 : wrap64 ((F.length : Int) - 1) = (F.length : Int) - 1 := by unfold wrap64; omega
  gi_wp2
  gi_loopw [3] (fun i wr => ∃ m : Nat, m ≤ F.length ∧ i = .int .i64 ((m : Int) - 1) ∧ J ((frXs F).take (F.length - m)) wr ∧ KeepBack Bs n₀ W wr)
    (fun i _ => (intOf i + 1).toNat)
  case atStart => exact ⟨F.length, Nat.le_refl _, rfl, by rw [Nat.sub_self]; exact h0, rfl, Below.refl _ _⟩
  case round =>
    obtain ⟨m, hm, rfl, hJs, hnx⟩ := hrel
    have hbx := (World.cell?_of_block (a := ⟨Bs, 0, none⟩) hnx.1).trans hBs
    cases m with
    | succ m =>
      obtain ⟨f, hf⟩ : ∃ f, F[m]? = some f := ⟨_, List.getElem?_eq_getElem (by omega)⟩
      obtain ⟨e1, e2⟩ := hc m f hf
      have c1 := (hnx.2.cell (p := ⟨b, m * 2, none⟩) hb).trans e1
      have c2 := (hnx.2.cell (p := ⟨b, m * 2 + 1, none⟩) hb).trans e2
      have hx := frXs_at F m f hf
      have hs : (frXs F).take (F.length - m) = (frXs F).take (F.length - (m + 1)) ++ [(m, ⟨f, List.mem_of_getElem? hf⟩)] := by
        obtain ⟨h1, h2⟩ := List.getElem?_eq_some_iff.mp hx
        rw [show F.length - m = (F.length - (m + 1)) + 1 by omega, List.take_succ_eq_append_getElem h1, h2]
      obtain ⟨fn, tmps, assign, body, hy, hR⟩ := hY _ (m, ⟨f, List.mem_of_getElem? hf⟩) wr hJs (by rw [List.length_take, frXs_length]; omega)
      dsimp only [encFr] at hy
      have hi : (((m + 1 : Nat) : Int) - 1) = (m : Int) := by omega
      have hw : wrap64 ((m : Int) - 1) = (m : Int) - 1 := by unfold wrap64; omega
      rw [hi]
      have hge : decide ((0 : Int) ≤ (m : Int)) = true := by simp
      have hlt1 : ¬ ((F.length : Int) ≤ (m : Int)) := by omega
      have hlt0 : ¬ ((m : Int) < 0) := by omega
      gi_wp2
      refine hR.mono ?_
      rintro e W3 (⟨rfl, hJ3, hk3⟩ | ⟨rfl, hJx3⟩)
      · gi_wp2
        go_roundw
        case rel => exact ⟨m, by omega, rfl, by rw [hs]; exact hJ3, hnx.trans hk3⟩
        case measure => simp [intOf]
      · gi_wp2
        refine bodyPost_ret (results_none rfl _ _ _) rfl ?_
        exact ⟨⟨_, rfl⟩, .inr ⟨_, ⟨F.length - m, hs.symm⟩, hJx3⟩⟩
    | zero =>
      gi_wp2
      go_end0
      refine ⟨⟨_, rfl⟩, .inl ⟨_, ?_, hJs⟩⟩
      rw [List.take_of_length_le (by rw [frXs_length]; omega)]

set_option maxRecDepth 100000 in
set_option maxHeartbeats 2000000 in
theorem back0_in (Fe : Fence) (n : Nat) (h8 : Fe.fn 35) (hro : Fe.round = none) (l Bs : Nat) {α : Type} (J : List α → World → Prop)
    (W : World) (hBs : W.cell? ⟨Bs, 0, none⟩ = some (.slice none 0 0)) (h0 : J [] W) :
    CallsIn Fe n Tryd.prog 35 #[.func (.yield l) #[] #[], .pointer (some ⟨Bs, 0, none⟩)] W fun e W' => (∃ v, e = .returned v) ∧ J [] W' := by
  refine callsIn_of_wp Tryd.func35 rfl h8 ?_ hro
  simp only [Tryd.ntmps35, List.size_toArray, List.length_cons, List.length_nil, Nat.reduceAdd, Nat.reduceSub, Array.replicate_succ, Array.replicate_zero, List.push_toArray, List.append_toArray, List.nil_append, List.cons_append]
  gi_wp2
  gi_loopw [3] (fun i wr => i = .int .i64 (-1) ∧ J [] wr) (fun _ _ => 0)
  case atStart => exact ⟨rfl, h0⟩
  case round =>
    obtain ⟨rfl, hJs⟩ := hrel
    gi_wp2
    go_end0
    exact ⟨⟨_, rfl⟩, hJs⟩

theorem back_stops (Fe : Fence) (n : Nat) (h8 : Fe.fn 35) (hro : Fe.round = none) (hn : 1 ≤ n) (Bs n₀ base : Nat) (fv : Value) (F : List Fr) (hlen : F.length ≤ 1000) (w : World) (hBs : Bs < w.heap.size) (hn₀ : n₀ ≤ w.heap.size)
    (hc : w.cell? ⟨Bs, 0, none⟩ = some fv) (hrow : w.ownsRow base 53 2 fv F.length (frV F)) (hlt : ∀ b, fv.ownBlock = some b → b < n₀) :
    SeqStopsK Fe n Tryd.prog 35 #[.pointer (some ⟨Bs, 0, none⟩)] (encFr (F := F)) (KeepBack Bs n₀) (fun ys => ys = frXs F) (fun pre => ∃ k, pre = (frXs F).take k) F.length w := fun l J Jx W hW _ _ hY h0 => by
  have hc' := (hW.cell (p := ⟨Bs, 0, none⟩) hBs).trans hc
  have hr := row_kept hrow (fun k e => hW.block k (Nat.lt_of_lt_of_le (hlt k e) hn₀))
  rcases hr.2 with ⟨rfl, he⟩ | ⟨g, cap, cur, rfl, hb, hg, h1, h2, h3, h4⟩
  · obtain rfl := List.length_eq_zero_iff.mp he
    exact (back0_in Fe n h8 hro l Bs J W hc' h0).mono fun e W' ⟨he, hj⟩ => ⟨he, .inl ⟨_, rfl, hj⟩⟩
  · refine back1_in Fe n h8 hro hn l Bs n₀ g cap F hlen (hlt g rfl) J Jx hY W hc' (fun j f hj => ?_) h0
    obtain ⟨e1, e2⟩ := frV_at F j f hj
    have hp : ∀ k, (⟨g, 0, none⟩ : Addr).add k = ⟨g, k, none⟩ := fun k => by
      unfold Addr.add
      split
      · rename_i h0; rw [h0]
      · simp
    exact ⟨by rw [← hp]; exact hr.cells (g := g) rfl (j * 2) _ e1, by rw [← hp]; exact hr.cells (g := g) rfl (j * 2 + 1) _ e2⟩

set_option maxHeartbeats 1000000 in
/-- slices.Backward boxes the slice. -/
theorem back_in (Fe : Fence) (n : Nat) (h5 : Fe.fn 24) (hro : Fe.round = none) (a : Option Addr) (len cap : Nat) (w : World) :
    CallsIn Fe n Tryd.prog 24 #[.slice a len cap] w fun e w' => e = .returned (.func (.func 35) #[] #[.pointer (some ⟨w.heap.size, 0, none⟩)]) ∧ w' = w.alloc (.cells #[.slice a len cap] 55) := by
  refine callsIn_of_wp Tryd.func24 rfl h5 ?_ hro
  simp only [Tryd.ntmps24, List.size_toArray, List.length_cons, List.length_nil, Nat.reduceAdd, Nat.reduceSub, Array.replicate_succ, Array.replicate_zero, List.push_toArray, List.append_toArray, List.nil_append, List.cons_append]
  gi_wp2
  go_ret
  exact ⟨rfl, rfl⟩
end Go.Proofs.YtjmaficiinhjpaaDoor.G
