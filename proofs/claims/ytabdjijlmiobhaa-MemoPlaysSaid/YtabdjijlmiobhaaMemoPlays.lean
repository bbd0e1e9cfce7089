/- wainwrightlaw22.MemoPlays: the walk of the law, for every number and every script. -/
import Derived.Test.YtabdjijlmiobhaaMemoNums
import Derived.Test.YtabdjijlmiobhaaOpenKd
namespace Go.Proofs.Ytabdjijlmiobhaa.G
open Go.RowKit Go.Maps Go.Sort Go.Proofs.YtabdjijlmiobhaaW.PrintWords
attribute [local irreducible] dig

/-- An instruction of a script: kind, name, value, turn, number. -/
abbrev OpS := Int × ByteArray × ByteArray × Int × Int
def kOp : Kd OpS := Kd.pair (Kd.int .i64) (Kd.pair Kd.string (Kd.pair Kd.string (Kd.pair (Kd.int .i64) (Kd.int .i64))))
def GoodOp (x : OpS) : Prop := x.2.1.size ≤ 140737488351232 ∧ x.2.2.1.size ≤ 140737488351232
def GoodOps (l : List OpS) : Prop := ∀ x ∈ l, GoodOp x
theorem opens_ops : Opens Try.prog 22 (Kd.slice 28 kOp) GoodOps := by
  have h := opens_slice Try.underlying22 (opens_struct5 Try.underlying28 (by kernel_rfl) rfl rfl rfl rfl rfl (by kernel_rfl) (by kernel_rfl) (by kernel_rfl) (by kernel_rfl) (by kernel_rfl) (opens_int Try.underlying3) (opens_string Try.underlying9) (opens_string Try.underlying9) (opens_int Try.underlying3) (opens_int Try.underlying3)) (by kernel_rfl)
  intro H enc w base spare held fuel cs x hx hsz
  obtain ⟨v, hv, h1, h2⟩ := h H enc w base spare held fuel cs x hx hsz
  exact ⟨v, hv, fun y hy => ⟨(h2 y hy).2.1, (h2 y hy).2.2.1⟩⟩
def opCells (x : OpS) : List Value := [.int .i64 x.1, .string x.2.1, .string x.2.2.1, .int .i64 x.2.2.2.1, .int .i64 x.2.2.2.2]
theorem kOp_cells {w : World} {x : OpS} {cs : List Value} (h : kOp.K w x cs) : cs = opCells x := by
  obtain ⟨c1, c2, rfl, h1, c3, c4, rfl, h3, c5, c6, rfl, h5, c7, c8, rfl, h7, h8⟩ := h
  obtain rfl : c1 = _ := h1
  obtain rfl : c3 = _ := h3
  obtain rfl : c5 = _ := h5
  obtain rfl : c7 = _ := h7
  obtain rfl : c8 = _ := h8
  rfl
theorem ops_idx {A : Option Addr} {l : List OpS} {w : World} (h : Kd.C kOp w A l.length l) (k : Nat) (x : OpS) (hx : l[k]? = some x) :
    ∃ b off, A = some ⟨b, off, none⟩ ∧ b < w.heap.size ∧ ∀ i u, (opCells x)[i]? = some u → w.cell? ⟨b, off + (k * 5 + i), none⟩ = some u := by
  have hk := (List.getElem?_eq_some_iff.mp hx).1
  obtain ⟨a, rfl, hc⟩ := h.2.2 (by omega)
  obtain ⟨cs, hl, hK, hcell⟩ := hc k x hx
  obtain rfl := kOp_cells hK
  have h0 := hcell 0 _ rfl
  have hsp : a.spot = none := by
    obtain ⟨cs, _, hK, hcell⟩ := hc 0 _ (List.getElem?_eq_getElem (show 0 < l.length by omega))
    obtain rfl := kOp_cells hK
    have h1 := hcell 0 _ rfl
    rw [show 0 * kOp.sz + 0 = 0 by omega] at h1
    exact World.cell?_spot h1
  obtain ⟨b, off, sp⟩ := a
  simp only at hsp
  subst hsp
  have e : ∀ j, (⟨b, off, none⟩ : Addr).add j = ⟨b, off + j, none⟩ := fun j => by
    unfold Addr.add
    split
    · rename_i h0; rw [h0]; rfl
    · rfl
  refine ⟨b, off, rfl, ?_, fun i u hu => by rw [← e]; exact hcell i u hu⟩
  rw [e] at h0
  exact World.block_lt_of_cell? w _ h0

set_option maxHeartbeats 4000000 in
set_option maxRecDepth 100000 in
theorem memoPlays_walk (a0 : Int) (A : Option Addr) (c : Nat) (l : List OpS) (w : World) (_w0 : (Lit.int .i64 a0).wf = true) (hC : Kd.C kOp w A l.length l) (_hc : l.length ≤ c) (hG : GoodOps l) :
    Calls Try.prog 3 #[.int .i64 a0, .slice A l.length c] w fun e w' => e = .returned (.bool true) ∧ Below w.heap.size w w' := by
  have HIDX := Lib.hid (fun k x hx => ops_idx hC k x hx)
  have HG := Lib.hid hG
  have hmax : l.length ≤ 9223372036854775807 := by have := hC.2.1; first | (unfold maxLen at this; omega) | omega
  obtain ⟨M, hM⟩ : ∃ M : Int, M = max 0 (min a0 1000) := ⟨_, rfl⟩
  have HM := Lib.hid hM
  have hM1 : M ≤ 1000 := by omega
  have hM0 : 0 ≤ M := by omega
  clear hC hG hM
  go_enter Try.func3, Try.ntmps3
  go_wp2_with (first
    | (go_at_call 12; refine (new_at a0 _ M HM.out.symm).mono ?_; rintro e w2 ⟨cb, bm, rfl, hA⟩; have HA0 := Lib.hid hA; clear hA)
    | (go_at_call 13; refine (rnew_both HA0.out a0 HM.out.symm).mono ?_; rintro e w3 ⟨rb, rfl, hB⟩; have HB0 := Lib.hid hB; clear hB))
  go_loopw [7] (fun v7 wr => ∃ (k : Nat) (h : Int) (E : List Ent), k ≤ 80 ∧ v7 = .int .i64 k ∧ Hid ((E.length : Int) ≤ M) ∧ Hid (Both none w.heap.size w wr cb rb k M h h E E bm)) (fun i _ => 80 - (intOf i).toNat)
  case atStart => exact ⟨0, 0, [], by omega, rfl, Lib.hid (by simpa using hM0), HB0⟩
  case round =>
    obtain ⟨k, h, E, hk, rfl, HE, HB⟩ := hrel
    by_cases hin : k < l.length ∧ k < 80
    · obtain ⟨⟨kd, nm, vl, tn, dp⟩, hx⟩ : ∃ x, l[k]? = some x := ⟨_, List.getElem?_eq_getElem hin.1⟩
      obtain ⟨b, off, rfl, hbz, hcell⟩ := HIDX.out k _ hx
      obtain ⟨z1, z2⟩ := HG.out _ (List.mem_of_getElem? hx)
      simp only at z1 z2
      have hcx := fun i u hu => (HB.out.zero.1.cell (p := ⟨b, off + (k * 5 + i), none⟩) (by exact hbz)).trans (hcell i u hu)
      have d0 : wr.cell? ⟨b, off + k * 5, none⟩ = some (.int .i64 kd) := by have := hcx 0 _ rfl; exact this
      have d1 : wr.cell? ⟨b, off + k * 5 + 1, none⟩ = some (.string nm) := by have := hcx 1 _ rfl; rw [← Nat.add_assoc] at this; exact this
      have d2 : wr.cell? ⟨b, off + k * 5 + 2, none⟩ = some (.string vl) := by have := hcx 2 _ rfl; rw [← Nat.add_assoc] at this; exact this
      have d3 : wr.cell? ⟨b, off + k * 5 + 3, none⟩ = some (.int .i64 tn) := by have := hcx 3 _ rfl; rw [← Nat.add_assoc] at this; exact this
      have d4 : wr.cell? ⟨b, off + k * 5 + 4, none⟩ = some (.int .i64 dp) := by have := hcx 4 _ rfl; rw [← Nat.add_assoc] at this; exact this
      have hk1 := hin.1
      have hk2 := hin.2
      have hn : k < maxLen := by unfold maxLen; omega
      clear hcell hin hx hcx
      have e1 : IntKind.i64.wrap ((nm.size : Int) + (vl.size : Int)) = (nm.size : Int) + (vl.size : Int) := IntWalk.i64_in _ (by omega)
      by_cases hbig : 200 < nm.size + vl.size
      · have hd : decide ((200 : Int) < (nm.size : Int) + (vl.size : Int)) = true := decide_eq_true (by omega)
        go_wp2_with fail
        go_quiet (fail)
        clear e1 d0 d1 d2 d3 d4
        go_wp2_with (first
          | (go_at_call 14; refine (awake_both (HB.out.drewN nq)).mono ?_; rintro e w4 ⟨rfl, hB⟩; have HB4 := Lib.hid hB; clear hB))
        go_ret
        exact ⟨rfl, HB4.out.zero.1⟩
      · have hd : decide ((200 : Int) < (nm.size : Int) + (vl.size : Int)) = false := decide_eq_false (by omega)
        go_wp2_with fail
        go_quiet (fail)
        clear e1
        have HB5 := Lib.hid (HB.out.drewN nq)
        have d0 : (wr.drewN nq).cell? ⟨b, off + k * 5, none⟩ = _ := d0
        have d1 : (wr.drewN nq).cell? ⟨b, off + k * 5 + 1, none⟩ = _ := d1
        have d2 : (wr.drewN nq).cell? ⟨b, off + k * 5 + 2, none⟩ = _ := d2
        have d3 : (wr.drewN nq).cell? ⟨b, off + k * 5 + 3, none⟩ = _ := d3
        have d4 : (wr.drewN nq).cell? ⟨b, off + k * 5 + 4, none⟩ = _ := d4
        generalize wr.drewN nq = wq at d0 d1 d2 d3 d4 HB5 ⊢
        go_wp2_with (first
          | (go_at_call 15; refine (step_both HB5.out kd nm vl tn dp (by unfold maxLen; omega) hn HE.out hM1).mono ?_; rintro e w6 ⟨rfl, h6, E6, hE6, hB6⟩; have HB6 := Lib.hid hB6; have HE6 := Lib.hid hE6; clear hB6 hE6))
        go_roundw
        case rel => exact ⟨k + 1, h6, E6, by omega, by go_num, HE6, HB6⟩
        case measure => simp [intOf]; omega
    · have hout : l.length ≤ k ∨ (k < l.length ∧ 80 ≤ k) := by omega
      rcases hout with h1 | ⟨h1, h2⟩
      all_goals
        go_wp2_with (first
          | (go_at_call 14; refine (awake_both HB.out).mono ?_; rintro e w4 ⟨rfl, hB⟩; have HB4 := Lib.hid hB; clear hB))
        go_ret
        exact ⟨rfl, HB4.out.zero.1⟩
end Go.Proofs.Ytabdjijlmiobhaa.G
