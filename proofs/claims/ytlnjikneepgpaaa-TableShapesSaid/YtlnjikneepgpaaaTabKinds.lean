/- wainwrightlaw09.TableKinds: the walk of the law for every number: all names in turn, each found, each kind counted. -/
import Derived.Test.YtlnjikneepgpaaaTabNames
import Derived.Test.YtlnjikneepgpaaaSoundRow
import Derived.BigQuiet
import Derived.Deep.QuietTactic
import Derived.Laws.Cover1
namespace Go.Proofs.Ytlnjikneepgpaaa.Pure
open Go.RowKit Go.Proofs.Ytlnjikneepgpaaa.P Go.Proofs.Ytlnjikneepgpaaa.G Go.Proofs.Ytlnjikneepgpaaa.P0 Go.Sort
set_option linter.unusedVariables false
set_option linter.unusedSimpArgs false

def nm (i : Nat) : ByteArray := ⟨(namesS.getD i []).toArray⟩
theorem nm_at {i : Nat} (h : i < 35) : (namesS.map encStr)[i]? = some (.string (nm i)) := by
  have hl : namesS.length = 35 := by decide
  rw [List.getElem?_map, List.getElem?_eq_getElem (by omega)]
  simp [nm, encStr, List.getD, List.getElem?_eq_getElem (show i < namesS.length by omega)]
theorem nm_all : ∀ i : Fin 35, (lookT tabL (nm i.val)).isSome = true ∧ (nm i.val).size ≤ 100 := by decide +kernel
theorem nm_find {i : Nat} (h : i < 35) : table_Find.f (nm i) = some ((infOf (nm i)).mn, (infOf (nm i)).mx, (infOf (nm i)).lz, (infOf (nm i)).pu, true) := by
  obtain ⟨h1, h2⟩ := nm_all ⟨i, h⟩
  unfold table_Find.f
  simp only at h1 h2
  rw [if_pos (by omega), h1]
theorem nm_less_all : ∀ i : Fin 34, Op.bytesLess (nm i.val).toList (nm (i.val + 1)).toList = true := by decide +kernel
theorem nm_less {i : Nat} (h : i + 1 < 35) : Op.bytesLess (nm i).toList (nm (i + 1)).toList = true := nm_less_all ⟨i, by omega⟩
def kB : Nat → Inf → Bool
  | 0, f => f.lz
  | 1, f => f.pu
  | 2, f => f.mx == 0
  | 3, f => f.mn == 1
  | 4, f => f.mn == 2
  | _, f => f.mn == 3
def cnt (k : Nat) : Nat → Nat
  | 0 => 0
  | i + 1 => cnt k i + if kB k (infOf (nm i)) then 1 else 0
theorem cnt_yes {k i c : Nat} {f : Inf} (hc : c = cnt k i) (hf : f = infOf (nm i)) (hb : kB k f = true) : c + 1 = cnt k (i + 1) := by
  subst hc hf
  simp [cnt, hb]
theorem cnt_no {k i c : Nat} {f : Inf} (hc : c = cnt k i) (hf : f = infOf (nm i)) (hb : kB k f = false) : c = cnt k (i + 1) := by
  subst hc hf
  simp [cnt, hb]
theorem cnt_le (k : Nat) : ∀ i, cnt k i ≤ i
  | 0 => Nat.le_refl _
  | i + 1 => by
    have := cnt_le k i
    unfold cnt
    split <;> omega
theorem cnt_end : ∀ k : Fin 6, cnt k.val 35 = [6, 21, 3, 21, 9, 5].getD k.val 0 := by decide +kernel
theorem add9 (g i : Nat) : (⟨g, 0, none⟩ : Addr).add i = ⟨g, i, none⟩ := by
  unfold Addr.add
  split
  · rename_i h0; rw [h0]
  · simp
theorem own_at {w : World} {base g n cap : Nat} {e : TypeId} {xs : List Value} (h : w.ownsRow base e 1 (.slice (some ⟨g, 0, none⟩) n cap) n xs) (i : Nat) (u : Value) (hu : xs[i]? = some u) : w.cell? ⟨g, i, none⟩ = some u := by
  have := h.cells (g := g) rfl i u hu
  first | exact this | rwa [add9] at this
theorem find_if : table_Find.f ⟨#[105, 102]⟩ = some (2, 3, true, false, true) := by decide +kernel
theorem find_hop : table_Find.f ⟨#[104, 111, 112]⟩ = some (0, 0, false, false, false) := by decide +kernel
theorem behind9 {w : World} {p : Addr} {v : Value} (h : w.cell? p = some v) (hp : p.block < w.heap.size) (o : Obj) : (w.alloc o).cell? p = some v := by
  rw [World.cell?_of_block (w := w) (Below.heap_alloc w o p.block hp)]
  exact h
theorem cell_new9 {w w2 : World} {C : List Value} {t : TypeId} (hb : Below (w.heap.size + 1) (w.alloc (.cells C.toArray t)) w2) (j : Nat) (u : Value) (hu : C[j]? = some u) : w2.cell? ⟨w.heap.size, j, none⟩ = some u := by
  rw [hb.cell (by simp), cell_of_block (heap_alloc_new w _)]
  simpa using hu

set_option maxHeartbeats 4000000 in
set_option maxRecDepth 100000 in
theorem awake09 (w : World) : Calls Try.prog 43 #[] w fun e w' => e = .returned (.bool true) ∧ Below w.heap.size w w' := by
  go_enter Try.func43, Try.ntmps43
  have T1 : Hid True := trivial
  go_wp2_with (first
    | (clear T1; go_at_call 41; refine (table_Find.calls _ 2 3 true false true _ find_if).mono ?_; rintro e w1 ⟨rfl, hb1⟩; have HB1 := Lib.hid hb1; clear hb1; have T2 : Hid True := trivial)
    | (clear T2; go_at_call 41; refine (table_Find.calls _ 0 0 false false false _ find_hop).mono ?_; rintro e w2 ⟨rfl, hb2⟩; have hb2' := hb2.mono (show w1.heap.size + 1 ≤ _ by simp); have hsz : w1.heap.size < w2.heap.size := (by have := hb2.size; simp at this; omega); have HB2 := Lib.hid ((HB1.out.alloc HB1.out.size _).trans (hb2.mono (by have := HB1.out.size; simp; omega))); have hv0 := behind9 (cell_new9 (C := [.int .i64 2, .int .i64 3, .bool true, .bool false]) hb2' 0 _ rfl) hsz (.cells #[.int .i64 0, .int .i64 0, .bool false, .bool false] 61); have hv1 := behind9 (cell_new9 (C := [.int .i64 2, .int .i64 3, .bool true, .bool false]) hb2' 1 _ rfl) hsz (.cells #[.int .i64 0, .int .i64 0, .bool false, .bool false] 61); have hv2 := behind9 (cell_new9 (C := [.int .i64 2, .int .i64 3, .bool true, .bool false]) hb2' 2 _ rfl) hsz (.cells #[.int .i64 0, .int .i64 0, .bool false, .bool false] 61); clear hb2 hb2' hsz)
    | (go_at_call 38; refine (table_Names_own _).mono ?_; rintro e w3 ⟨g, cap, rfl, _, hb3⟩; have HB3 := Lib.hid ((HB2.out.alloc HB2.out.size _).trans (hb3.mono (by have := HB2.out.size; simp; omega))); clear hb3))
  go_ret
  exact ⟨rfl, HB3.out⟩


set_option maxHeartbeats 8000000 in
set_option maxRecDepth 100000 in
theorem tableKinds_0 (a0 : Int) (hp : wainwrightlaw00_Place.f a0 6 = some 0) (w : World) :
    Calls Try.prog 14 #[.int .i64 a0] w fun e w' => e = .returned (.bool true) ∧ Below w.heap.size w w' := by
  have HP := Lib.hid hp
  clear hp
  have hx : ∀ b0 b1 b2 b3 b4 b5 w_, (Instr.index 69 (.agg #[.bool b0, .bool b1, .bool b2, .bool b3, .bool b4, .bool b5]) (.int .i64 0)).run Try.prog w_ = .ok (.bool b0) w_ := fun _ _ _ _ _ _ _ => by kernel_rfl
  have hy : ∀ w_, (Instr.index 70 (.agg #[.int .i64 6, .int .i64 21, .int .i64 3, .int .i64 21, .int .i64 9, .int .i64 5]) (.int .i64 0)).run Try.prog w_ = .ok (.int .i64 6) w_ := fun _ => by kernel_rfl
  go_enter Try.func14, Try.ntmps14
  go_wp2_with (first
    | (go_at_call 38; refine (table_Names_own _).mono ?_; rintro e w1 ⟨g, cap, rfl, hown, hb⟩; have HO := Lib.hid hown; have HB := Lib.hid hb; clear hown hb)
    | (go_at_call 27; refine (wainwrightlaw00_Place.calls a0 6 0 _ HP.out).mono ?_; rintro e w2 ⟨rfl, nd, rfl⟩))
  have HO2 : Hid ((w1.drewN nd).ownsRow w.heap.size 9 1 (.slice (some ⟨g, 0, none⟩) 35 cap) 35 (namesS.map encStr)) := Lib.hid (HO.out.kept (row := none) ⟨rfl, rfl, rfl, Nat.le_refl _, fun _ _ _ => rfl⟩ (Classical.em _))
  have HB2 : Hid (Below w.heap.size w (w1.drewN nd)) := Lib.hid (HB.out.trans ⟨rfl, rfl, rfl, Nat.le_refl _, fun _ _ => rfl⟩)
  clear HO HB
  obtain ⟨wo, hwo⟩ : ∃ wo, wo = w1.drewN nd := ⟨_, rfl⟩
  rw [← hwo] at HO2 HB2 ⊢
  clear hwo
  go_loopw [5, 6] (fun v5 v6 wr => ∃ i c : Nat, i ≤ 35 ∧ c ≤ i ∧ v6 = .int .i64 i ∧ v5 = .int .i64 c ∧ Hid (c = cnt 0 i) ∧ Hid (wr.ownsRow w.heap.size 9 1 (.slice (some ⟨g, 0, none⟩) 35 cap) 35 (namesS.map encStr)) ∧ Hid (Below w.heap.size w wr)) (fun _ i _ => 35 - (intOf i).toNat)
  case atStart => exact ⟨0, 0, by omega, by omega, rfl, rfl, Lib.hid rfl, HO2, HB2⟩
  case round =>
    obtain ⟨i, c, hi, hc, rfl, rfl, HCN, HO, HB⟩ := hrel
    clear HO2 HB2
    by_cases hin : i < 35
    · have hgl := (HO.out.lt g rfl).2
      obtain ⟨x, hx0⟩ : ∃ x, x = nm i := ⟨_, rfl⟩
      have hci := own_at HO.out i _ (nm_at hin)
      have hfind := nm_find hin
      obtain ⟨⟨m1, m2, lz, pu⟩, hm⟩ : ∃ f, f = infOf (nm i) := ⟨_, rfl⟩
      rw [← hm] at hfind
      rw [← hx0] at hci hfind
      have HF := Lib.hid hfind
      have HM := Lib.hid hm
      have HX := Lib.hid hx0
      have HI := Lib.hid hin
      have HG := Lib.hid hgl
      simp only at HF
      clear hfind hm hx0
      have hi35 : (i : Int) < 35 := by omega
      rcases i with _ | j
      all_goals
        try (
          obtain ⟨x0, hx1⟩ : ∃ x0, x0 = nm j := ⟨_, rfl⟩
          have hcj := own_at HO.out j _ (nm_at (by omega))
          have hls := nm_less HI.out
          rw [← hx1] at hcj hls
          rw [← HX.out] at hls
          have HX1 := Lib.hid hx1
          clear hx1)
        rcases Bool.eq_false_or_eq_true lz with hT | hT <;> subst hT
      all_goals
        go_wp2_with (go_at_call 41; refine (table_Find.calls _ _ _ _ _ _ _ HF.out).mono ?_; rintro e w2 ⟨rfl, hb2⟩; have HO3 := Lib.hid (HO.out.kept (row := none) ⟨hb2.os, hb2.tape, hb2.output, hb2.size, fun m hm _ => hb2.block m hm⟩ (Classical.em _)); have HB3 := Lib.hid (HB.out.trans (hb2.mono HB.out.size)); have HS2 := Lib.hid (Nat.lt_of_lt_of_le HG.out hb2.size); have hcA := fun o => behind9 ((hb2.cell (p := ⟨g, _, none⟩) HG.out).trans hci) HS2.out o; try (have hcB := fun o => behind9 ((hb2.cell (p := ⟨g, _, none⟩) HG.out).trans hcj) HS2.out o))
        go_quiet (fail)
        go_wp2
        have HO4 := fun o => Lib.hid ((HO3.out.alloc o).kept (row := none) (w' := (w2.alloc o).drewN nq) ⟨rfl, rfl, rfl, Nat.le_refl _, fun _ _ _ => rfl⟩ (Classical.em _))
        have HB4 := fun o => Lib.hid ((HB3.out.alloc HB3.out.size o).trans (show Below w.heap.size _ ((w2.alloc o).drewN nq) from ⟨rfl, rfl, rfl, Nat.le_refl _, fun _ _ => rfl⟩))
        first
          | exact ⟨⟨j + 1 + 1, c, by omega, by omega, by simp, rfl, Lib.hid (cnt_no HCN.out HM.out (by first | exact hT | rfl)), HO4 _, HB4 _⟩, by simp [intOf] <;> omega⟩
          | exact ⟨⟨j + 1 + 1, c + 1, by omega, by omega, by simp, by simp, Lib.hid (cnt_yes HCN.out HM.out (by first | exact hT | rfl)), HO4 _, HB4 _⟩, by simp [intOf] <;> omega⟩
          | exact ⟨⟨1, c, by omega, by omega, by simp, rfl, Lib.hid (cnt_no HCN.out HM.out (by first | exact hT | rfl)), HO4 _, HB4 _⟩, by simp [intOf] <;> omega⟩
          | exact ⟨⟨1, c + 1, by omega, by omega, by simp, by simp, Lib.hid (cnt_yes HCN.out HM.out (by first | exact hT | rfl)), HO4 _, HB4 _⟩, by simp [intOf] <;> omega⟩
    · obtain rfl : i = 35 := by omega
      have hcv : c = 6 := HCN.out.trans (cnt_end 0)
      subst hcv
      clear hin hi hc
      go_wp2_with (go_at_call 43; refine (awake09 _).mono ?_; rintro e w3 ⟨rfl, hb3⟩; have HB3 := Lib.hid (HB.out.trans (hb3.mono HB.out.size)); clear hb3)
      go_ret
      exact ⟨rfl, HB3.out⟩


set_option maxHeartbeats 8000000 in
set_option maxRecDepth 100000 in
theorem tableKinds_1 (a0 : Int) (hp : wainwrightlaw00_Place.f a0 6 = some 1) (w : World) :
    Calls Try.prog 14 #[.int .i64 a0] w fun e w' => e = .returned (.bool true) ∧ Below w.heap.size w w' := by
  have HP := Lib.hid hp
  clear hp
  have hx : ∀ b0 b1 b2 b3 b4 b5 w_, (Instr.index 69 (.agg #[.bool b0, .bool b1, .bool b2, .bool b3, .bool b4, .bool b5]) (.int .i64 1)).run Try.prog w_ = .ok (.bool b1) w_ := fun _ _ _ _ _ _ _ => by kernel_rfl
  have hy : ∀ w_, (Instr.index 70 (.agg #[.int .i64 6, .int .i64 21, .int .i64 3, .int .i64 21, .int .i64 9, .int .i64 5]) (.int .i64 1)).run Try.prog w_ = .ok (.int .i64 21) w_ := fun _ => by kernel_rfl
  go_enter Try.func14, Try.ntmps14
  go_wp2_with (first
    | (go_at_call 38; refine (table_Names_own _).mono ?_; rintro e w1 ⟨g, cap, rfl, hown, hb⟩; have HO := Lib.hid hown; have HB := Lib.hid hb; clear hown hb)
    | (go_at_call 27; refine (wainwrightlaw00_Place.calls a0 6 1 _ HP.out).mono ?_; rintro e w2 ⟨rfl, nd, rfl⟩))
  have HO2 : Hid ((w1.drewN nd).ownsRow w.heap.size 9 1 (.slice (some ⟨g, 0, none⟩) 35 cap) 35 (namesS.map encStr)) := Lib.hid (HO.out.kept (row := none) ⟨rfl, rfl, rfl, Nat.le_refl _, fun _ _ _ => rfl⟩ (Classical.em _))
  have HB2 : Hid (Below w.heap.size w (w1.drewN nd)) := Lib.hid (HB.out.trans ⟨rfl, rfl, rfl, Nat.le_refl _, fun _ _ => rfl⟩)
  clear HO HB
  obtain ⟨wo, hwo⟩ : ∃ wo, wo = w1.drewN nd := ⟨_, rfl⟩
  rw [← hwo] at HO2 HB2 ⊢
  clear hwo
  go_loopw [5, 6] (fun v5 v6 wr => ∃ i c : Nat, i ≤ 35 ∧ c ≤ i ∧ v6 = .int .i64 i ∧ v5 = .int .i64 c ∧ Hid (c = cnt 1 i) ∧ Hid (wr.ownsRow w.heap.size 9 1 (.slice (some ⟨g, 0, none⟩) 35 cap) 35 (namesS.map encStr)) ∧ Hid (Below w.heap.size w wr)) (fun _ i _ => 35 - (intOf i).toNat)
  case atStart => exact ⟨0, 0, by omega, by omega, rfl, rfl, Lib.hid rfl, HO2, HB2⟩
  case round =>
    obtain ⟨i, c, hi, hc, rfl, rfl, HCN, HO, HB⟩ := hrel
    clear HO2 HB2
    by_cases hin : i < 35
    · have hgl := (HO.out.lt g rfl).2
      obtain ⟨x, hx0⟩ : ∃ x, x = nm i := ⟨_, rfl⟩
      have hci := own_at HO.out i _ (nm_at hin)
      have hfind := nm_find hin
      obtain ⟨⟨m1, m2, lz, pu⟩, hm⟩ : ∃ f, f = infOf (nm i) := ⟨_, rfl⟩
      rw [← hm] at hfind
      rw [← hx0] at hci hfind
      have HF := Lib.hid hfind
      have HM := Lib.hid hm
      have HX := Lib.hid hx0
      have HI := Lib.hid hin
      have HG := Lib.hid hgl
      simp only at HF
      clear hfind hm hx0
      have hi35 : (i : Int) < 35 := by omega
      rcases i with _ | j
      all_goals
        try (
          obtain ⟨x0, hx1⟩ : ∃ x0, x0 = nm j := ⟨_, rfl⟩
          have hcj := own_at HO.out j _ (nm_at (by omega))
          have hls := nm_less HI.out
          rw [← hx1] at hcj hls
          rw [← HX.out] at hls
          have HX1 := Lib.hid hx1
          clear hx1)
        rcases Bool.eq_false_or_eq_true pu with hT | hT <;> subst hT
      all_goals
        go_wp2_with (go_at_call 41; refine (table_Find.calls _ _ _ _ _ _ _ HF.out).mono ?_; rintro e w2 ⟨rfl, hb2⟩; have HO3 := Lib.hid (HO.out.kept (row := none) ⟨hb2.os, hb2.tape, hb2.output, hb2.size, fun m hm _ => hb2.block m hm⟩ (Classical.em _)); have HB3 := Lib.hid (HB.out.trans (hb2.mono HB.out.size)); have HS2 := Lib.hid (Nat.lt_of_lt_of_le HG.out hb2.size); have hcA := fun o => behind9 ((hb2.cell (p := ⟨g, _, none⟩) HG.out).trans hci) HS2.out o; try (have hcB := fun o => behind9 ((hb2.cell (p := ⟨g, _, none⟩) HG.out).trans hcj) HS2.out o))
        go_quiet (fail)
        go_wp2
        have HO4 := fun o => Lib.hid ((HO3.out.alloc o).kept (row := none) (w' := (w2.alloc o).drewN nq) ⟨rfl, rfl, rfl, Nat.le_refl _, fun _ _ _ => rfl⟩ (Classical.em _))
        have HB4 := fun o => Lib.hid ((HB3.out.alloc HB3.out.size o).trans (show Below w.heap.size _ ((w2.alloc o).drewN nq) from ⟨rfl, rfl, rfl, Nat.le_refl _, fun _ _ => rfl⟩))
        first
          | exact ⟨⟨j + 1 + 1, c, by omega, by omega, by simp, rfl, Lib.hid (cnt_no HCN.out HM.out (by first | exact hT | rfl)), HO4 _, HB4 _⟩, by simp [intOf] <;> omega⟩
          | exact ⟨⟨j + 1 + 1, c + 1, by omega, by omega, by simp, by simp, Lib.hid (cnt_yes HCN.out HM.out (by first | exact hT | rfl)), HO4 _, HB4 _⟩, by simp [intOf] <;> omega⟩
          | exact ⟨⟨1, c, by omega, by omega, by simp, rfl, Lib.hid (cnt_no HCN.out HM.out (by first | exact hT | rfl)), HO4 _, HB4 _⟩, by simp [intOf] <;> omega⟩
          | exact ⟨⟨1, c + 1, by omega, by omega, by simp, by simp, Lib.hid (cnt_yes HCN.out HM.out (by first | exact hT | rfl)), HO4 _, HB4 _⟩, by simp [intOf] <;> omega⟩
    · obtain rfl : i = 35 := by omega
      have hcv : c = 21 := HCN.out.trans (cnt_end 1)
      subst hcv
      clear hin hi hc
      go_wp2_with (go_at_call 43; refine (awake09 _).mono ?_; rintro e w3 ⟨rfl, hb3⟩; have HB3 := Lib.hid (HB.out.trans (hb3.mono HB.out.size)); clear hb3)
      go_ret
      exact ⟨rfl, HB3.out⟩


set_option maxHeartbeats 8000000 in
set_option maxRecDepth 100000 in
theorem tableKinds_2 (a0 : Int) (hp : wainwrightlaw00_Place.f a0 6 = some 2) (w : World) :
    Calls Try.prog 14 #[.int .i64 a0] w fun e w' => e = .returned (.bool true) ∧ Below w.heap.size w w' := by
  have HP := Lib.hid hp
  clear hp
  have hx : ∀ b0 b1 b2 b3 b4 b5 w_, (Instr.index 69 (.agg #[.bool b0, .bool b1, .bool b2, .bool b3, .bool b4, .bool b5]) (.int .i64 2)).run Try.prog w_ = .ok (.bool b2) w_ := fun _ _ _ _ _ _ _ => by kernel_rfl
  have hy : ∀ w_, (Instr.index 70 (.agg #[.int .i64 6, .int .i64 21, .int .i64 3, .int .i64 21, .int .i64 9, .int .i64 5]) (.int .i64 2)).run Try.prog w_ = .ok (.int .i64 3) w_ := fun _ => by kernel_rfl
  go_enter Try.func14, Try.ntmps14
  go_wp2_with (first
    | (go_at_call 38; refine (table_Names_own _).mono ?_; rintro e w1 ⟨g, cap, rfl, hown, hb⟩; have HO := Lib.hid hown; have HB := Lib.hid hb; clear hown hb)
    | (go_at_call 27; refine (wainwrightlaw00_Place.calls a0 6 2 _ HP.out).mono ?_; rintro e w2 ⟨rfl, nd, rfl⟩))
  have HO2 : Hid ((w1.drewN nd).ownsRow w.heap.size 9 1 (.slice (some ⟨g, 0, none⟩) 35 cap) 35 (namesS.map encStr)) := Lib.hid (HO.out.kept (row := none) ⟨rfl, rfl, rfl, Nat.le_refl _, fun _ _ _ => rfl⟩ (Classical.em _))
  have HB2 : Hid (Below w.heap.size w (w1.drewN nd)) := Lib.hid (HB.out.trans ⟨rfl, rfl, rfl, Nat.le_refl _, fun _ _ => rfl⟩)
  clear HO HB
  obtain ⟨wo, hwo⟩ : ∃ wo, wo = w1.drewN nd := ⟨_, rfl⟩
  rw [← hwo] at HO2 HB2 ⊢
  clear hwo
  go_loopw [5, 6] (fun v5 v6 wr => ∃ i c : Nat, i ≤ 35 ∧ c ≤ i ∧ v6 = .int .i64 i ∧ v5 = .int .i64 c ∧ Hid (c = cnt 2 i) ∧ Hid (wr.ownsRow w.heap.size 9 1 (.slice (some ⟨g, 0, none⟩) 35 cap) 35 (namesS.map encStr)) ∧ Hid (Below w.heap.size w wr)) (fun _ i _ => 35 - (intOf i).toNat)
  case atStart => exact ⟨0, 0, by omega, by omega, rfl, rfl, Lib.hid rfl, HO2, HB2⟩
  case round =>
    obtain ⟨i, c, hi, hc, rfl, rfl, HCN, HO, HB⟩ := hrel
    clear HO2 HB2
    by_cases hin : i < 35
    · have hgl := (HO.out.lt g rfl).2
      obtain ⟨x, hx0⟩ : ∃ x, x = nm i := ⟨_, rfl⟩
      have hci := own_at HO.out i _ (nm_at hin)
      have hfind := nm_find hin
      obtain ⟨⟨m1, m2, lz, pu⟩, hm⟩ : ∃ f, f = infOf (nm i) := ⟨_, rfl⟩
      rw [← hm] at hfind
      rw [← hx0] at hci hfind
      have HF := Lib.hid hfind
      have HM := Lib.hid hm
      have HX := Lib.hid hx0
      have HI := Lib.hid hin
      have HG := Lib.hid hgl
      simp only at HF
      clear hfind hm hx0
      have hi35 : (i : Int) < 35 := by omega
      rcases i with _ | j
      all_goals
        try (
          obtain ⟨x0, hx1⟩ : ∃ x0, x0 = nm j := ⟨_, rfl⟩
          have hcj := own_at HO.out j _ (nm_at (by omega))
          have hls := nm_less HI.out
          rw [← hx1] at hcj hls
          rw [← HX.out] at hls
          have HX1 := Lib.hid hx1
          clear hx1)
        cases hT : (m2 == 0)
      all_goals
        go_wp2_with (go_at_call 41; refine (table_Find.calls _ _ _ _ _ _ _ HF.out).mono ?_; rintro e w2 ⟨rfl, hb2⟩; have HO3 := Lib.hid (HO.out.kept (row := none) ⟨hb2.os, hb2.tape, hb2.output, hb2.size, fun m hm _ => hb2.block m hm⟩ (Classical.em _)); have HB3 := Lib.hid (HB.out.trans (hb2.mono HB.out.size)); have HS2 := Lib.hid (Nat.lt_of_lt_of_le HG.out hb2.size); have hcA := fun o => behind9 ((hb2.cell (p := ⟨g, _, none⟩) HG.out).trans hci) HS2.out o; try (have hcB := fun o => behind9 ((hb2.cell (p := ⟨g, _, none⟩) HG.out).trans hcj) HS2.out o))
        go_quiet (fail)
        go_wp2
        have HO4 := fun o => Lib.hid ((HO3.out.alloc o).kept (row := none) (w' := (w2.alloc o).drewN nq) ⟨rfl, rfl, rfl, Nat.le_refl _, fun _ _ _ => rfl⟩ (Classical.em _))
        have HB4 := fun o => Lib.hid ((HB3.out.alloc HB3.out.size o).trans (show Below w.heap.size _ ((w2.alloc o).drewN nq) from ⟨rfl, rfl, rfl, Nat.le_refl _, fun _ _ => rfl⟩))
        first
          | exact ⟨⟨j + 1 + 1, c, by omega, by omega, by simp, rfl, Lib.hid (cnt_no HCN.out HM.out (by first | exact hT | rfl)), HO4 _, HB4 _⟩, by simp [intOf] <;> omega⟩
          | exact ⟨⟨j + 1 + 1, c + 1, by omega, by omega, by simp, by simp, Lib.hid (cnt_yes HCN.out HM.out (by first | exact hT | rfl)), HO4 _, HB4 _⟩, by simp [intOf] <;> omega⟩
          | exact ⟨⟨1, c, by omega, by omega, by simp, rfl, Lib.hid (cnt_no HCN.out HM.out (by first | exact hT | rfl)), HO4 _, HB4 _⟩, by simp [intOf] <;> omega⟩
          | exact ⟨⟨1, c + 1, by omega, by omega, by simp, by simp, Lib.hid (cnt_yes HCN.out HM.out (by first | exact hT | rfl)), HO4 _, HB4 _⟩, by simp [intOf] <;> omega⟩
    · obtain rfl : i = 35 := by omega
      have hcv : c = 3 := HCN.out.trans (cnt_end 2)
      subst hcv
      clear hin hi hc
      go_wp2_with (go_at_call 43; refine (awake09 _).mono ?_; rintro e w3 ⟨rfl, hb3⟩; have HB3 := Lib.hid (HB.out.trans (hb3.mono HB.out.size)); clear hb3)
      go_ret
      exact ⟨rfl, HB3.out⟩


set_option maxHeartbeats 8000000 in
set_option maxRecDepth 100000 in
theorem tableKinds_3 (a0 : Int) (hp : wainwrightlaw00_Place.f a0 6 = some 3) (w : World) :
    Calls Try.prog 14 #[.int .i64 a0] w fun e w' => e = .returned (.bool true) ∧ Below w.heap.size w w' := by
  have HP := Lib.hid hp
  clear hp
  have hx : ∀ b0 b1 b2 b3 b4 b5 w_, (Instr.index 69 (.agg #[.bool b0, .bool b1, .bool b2, .bool b3, .bool b4, .bool b5]) (.int .i64 3)).run Try.prog w_ = .ok (.bool b3) w_ := fun _ _ _ _ _ _ _ => by kernel_rfl
  have hy : ∀ w_, (Instr.index 70 (.agg #[.int .i64 6, .int .i64 21, .int .i64 3, .int .i64 21, .int .i64 9, .int .i64 5]) (.int .i64 3)).run Try.prog w_ = .ok (.int .i64 21) w_ := fun _ => by kernel_rfl
  go_enter Try.func14, Try.ntmps14
  go_wp2_with (first
    | (go_at_call 38; refine (table_Names_own _).mono ?_; rintro e w1 ⟨g, cap, rfl, hown, hb⟩; have HO := Lib.hid hown; have HB := Lib.hid hb; clear hown hb)
    | (go_at_call 27; refine (wainwrightlaw00_Place.calls a0 6 3 _ HP.out).mono ?_; rintro e w2 ⟨rfl, nd, rfl⟩))
  have HO2 : Hid ((w1.drewN nd).ownsRow w.heap.size 9 1 (.slice (some ⟨g, 0, none⟩) 35 cap) 35 (namesS.map encStr)) := Lib.hid (HO.out.kept (row := none) ⟨rfl, rfl, rfl, Nat.le_refl _, fun _ _ _ => rfl⟩ (Classical.em _))
  have HB2 : Hid (Below w.heap.size w (w1.drewN nd)) := Lib.hid (HB.out.trans ⟨rfl, rfl, rfl, Nat.le_refl _, fun _ _ => rfl⟩)
  clear HO HB
  obtain ⟨wo, hwo⟩ : ∃ wo, wo = w1.drewN nd := ⟨_, rfl⟩
  rw [← hwo] at HO2 HB2 ⊢
  clear hwo
  go_loopw [5, 6] (fun v5 v6 wr => ∃ i c : Nat, i ≤ 35 ∧ c ≤ i ∧ v6 = .int .i64 i ∧ v5 = .int .i64 c ∧ Hid (c = cnt 3 i) ∧ Hid (wr.ownsRow w.heap.size 9 1 (.slice (some ⟨g, 0, none⟩) 35 cap) 35 (namesS.map encStr)) ∧ Hid (Below w.heap.size w wr)) (fun _ i _ => 35 - (intOf i).toNat)
  case atStart => exact ⟨0, 0, by omega, by omega, rfl, rfl, Lib.hid rfl, HO2, HB2⟩
  case round =>
    obtain ⟨i, c, hi, hc, rfl, rfl, HCN, HO, HB⟩ := hrel
    clear HO2 HB2
    by_cases hin : i < 35
    · have hgl := (HO.out.lt g rfl).2
      obtain ⟨x, hx0⟩ : ∃ x, x = nm i := ⟨_, rfl⟩
      have hci := own_at HO.out i _ (nm_at hin)
      have hfind := nm_find hin
      obtain ⟨⟨m1, m2, lz, pu⟩, hm⟩ : ∃ f, f = infOf (nm i) := ⟨_, rfl⟩
      rw [← hm] at hfind
      rw [← hx0] at hci hfind
      have HF := Lib.hid hfind
      have HM := Lib.hid hm
      have HX := Lib.hid hx0
      have HI := Lib.hid hin
      have HG := Lib.hid hgl
      simp only at HF
      clear hfind hm hx0
      have hi35 : (i : Int) < 35 := by omega
      rcases i with _ | j
      all_goals
        try (
          obtain ⟨x0, hx1⟩ : ∃ x0, x0 = nm j := ⟨_, rfl⟩
          have hcj := own_at HO.out j _ (nm_at (by omega))
          have hls := nm_less HI.out
          rw [← hx1] at hcj hls
          rw [← HX.out] at hls
          have HX1 := Lib.hid hx1
          clear hx1)
        cases hT : (m1 == 1)
      all_goals
        go_wp2_with (go_at_call 41; refine (table_Find.calls _ _ _ _ _ _ _ HF.out).mono ?_; rintro e w2 ⟨rfl, hb2⟩; have HO3 := Lib.hid (HO.out.kept (row := none) ⟨hb2.os, hb2.tape, hb2.output, hb2.size, fun m hm _ => hb2.block m hm⟩ (Classical.em _)); have HB3 := Lib.hid (HB.out.trans (hb2.mono HB.out.size)); have HS2 := Lib.hid (Nat.lt_of_lt_of_le HG.out hb2.size); have hcA := fun o => behind9 ((hb2.cell (p := ⟨g, _, none⟩) HG.out).trans hci) HS2.out o; try (have hcB := fun o => behind9 ((hb2.cell (p := ⟨g, _, none⟩) HG.out).trans hcj) HS2.out o))
        go_quiet (fail)
        go_wp2
        have HO4 := fun o => Lib.hid ((HO3.out.alloc o).kept (row := none) (w' := (w2.alloc o).drewN nq) ⟨rfl, rfl, rfl, Nat.le_refl _, fun _ _ _ => rfl⟩ (Classical.em _))
        have HB4 := fun o => Lib.hid ((HB3.out.alloc HB3.out.size o).trans (show Below w.heap.size _ ((w2.alloc o).drewN nq) from ⟨rfl, rfl, rfl, Nat.le_refl _, fun _ _ => rfl⟩))
        first
          | exact ⟨⟨j + 1 + 1, c, by omega, by omega, by simp, rfl, Lib.hid (cnt_no HCN.out HM.out (by first | exact hT | rfl)), HO4 _, HB4 _⟩, by simp [intOf] <;> omega⟩
          | exact ⟨⟨j + 1 + 1, c + 1, by omega, by omega, by simp, by simp, Lib.hid (cnt_yes HCN.out HM.out (by first | exact hT | rfl)), HO4 _, HB4 _⟩, by simp [intOf] <;> omega⟩
          | exact ⟨⟨1, c, by omega, by omega, by simp, rfl, Lib.hid (cnt_no HCN.out HM.out (by first | exact hT | rfl)), HO4 _, HB4 _⟩, by simp [intOf] <;> omega⟩
          | exact ⟨⟨1, c + 1, by omega, by omega, by simp, by simp, Lib.hid (cnt_yes HCN.out HM.out (by first | exact hT | rfl)), HO4 _, HB4 _⟩, by simp [intOf] <;> omega⟩
    · obtain rfl : i = 35 := by omega
      have hcv : c = 21 := HCN.out.trans (cnt_end 3)
      subst hcv
      clear hin hi hc
      go_wp2_with (go_at_call 43; refine (awake09 _).mono ?_; rintro e w3 ⟨rfl, hb3⟩; have HB3 := Lib.hid (HB.out.trans (hb3.mono HB.out.size)); clear hb3)
      go_ret
      exact ⟨rfl, HB3.out⟩


set_option maxHeartbeats 8000000 in
set_option maxRecDepth 100000 in
theorem tableKinds_4 (a0 : Int) (hp : wainwrightlaw00_Place.f a0 6 = some 4) (w : World) :
    Calls Try.prog 14 #[.int .i64 a0] w fun e w' => e = .returned (.bool true) ∧ Below w.heap.size w w' := by
  have HP := Lib.hid hp
  clear hp
  have hx : ∀ b0 b1 b2 b3 b4 b5 w_, (Instr.index 69 (.agg #[.bool b0, .bool b1, .bool b2, .bool b3, .bool b4, .bool b5]) (.int .i64 4)).run Try.prog w_ = .ok (.bool b4) w_ := fun _ _ _ _ _ _ _ => by kernel_rfl
  have hy : ∀ w_, (Instr.index 70 (.agg #[.int .i64 6, .int .i64 21, .int .i64 3, .int .i64 21, .int .i64 9, .int .i64 5]) (.int .i64 4)).run Try.prog w_ = .ok (.int .i64 9) w_ := fun _ => by kernel_rfl
  go_enter Try.func14, Try.ntmps14
  go_wp2_with (first
    | (go_at_call 38; refine (table_Names_own _).mono ?_; rintro e w1 ⟨g, cap, rfl, hown, hb⟩; have HO := Lib.hid hown; have HB := Lib.hid hb; clear hown hb)
    | (go_at_call 27; refine (wainwrightlaw00_Place.calls a0 6 4 _ HP.out).mono ?_; rintro e w2 ⟨rfl, nd, rfl⟩))
  have HO2 : Hid ((w1.drewN nd).ownsRow w.heap.size 9 1 (.slice (some ⟨g, 0, none⟩) 35 cap) 35 (namesS.map encStr)) := Lib.hid (HO.out.kept (row := none) ⟨rfl, rfl, rfl, Nat.le_refl _, fun _ _ _ => rfl⟩ (Classical.em _))
  have HB2 : Hid (Below w.heap.size w (w1.drewN nd)) := Lib.hid (HB.out.trans ⟨rfl, rfl, rfl, Nat.le_refl _, fun _ _ => rfl⟩)
  clear HO HB
  obtain ⟨wo, hwo⟩ : ∃ wo, wo = w1.drewN nd := ⟨_, rfl⟩
  rw [← hwo] at HO2 HB2 ⊢
  clear hwo
  go_loopw [5, 6] (fun v5 v6 wr => ∃ i c : Nat, i ≤ 35 ∧ c ≤ i ∧ v6 = .int .i64 i ∧ v5 = .int .i64 c ∧ Hid (c = cnt 4 i) ∧ Hid (wr.ownsRow w.heap.size 9 1 (.slice (some ⟨g, 0, none⟩) 35 cap) 35 (namesS.map encStr)) ∧ Hid (Below w.heap.size w wr)) (fun _ i _ => 35 - (intOf i).toNat)
  case atStart => exact ⟨0, 0, by omega, by omega, rfl, rfl, Lib.hid rfl, HO2, HB2⟩
  case round =>
    obtain ⟨i, c, hi, hc, rfl, rfl, HCN, HO, HB⟩ := hrel
    clear HO2 HB2
    by_cases hin : i < 35
    · have hgl := (HO.out.lt g rfl).2
      obtain ⟨x, hx0⟩ : ∃ x, x = nm i := ⟨_, rfl⟩
      have hci := own_at HO.out i _ (nm_at hin)
      have hfind := nm_find hin
      obtain ⟨⟨m1, m2, lz, pu⟩, hm⟩ : ∃ f, f = infOf (nm i) := ⟨_, rfl⟩
      rw [← hm] at hfind
      rw [← hx0] at hci hfind
      have HF := Lib.hid hfind
      have HM := Lib.hid hm
      have HX := Lib.hid hx0
      have HI := Lib.hid hin
      have HG := Lib.hid hgl
      simp only at HF
      clear hfind hm hx0
      have hi35 : (i : Int) < 35 := by omega
      rcases i with _ | j
      all_goals
        try (
          obtain ⟨x0, hx1⟩ : ∃ x0, x0 = nm j := ⟨_, rfl⟩
          have hcj := own_at HO.out j _ (nm_at (by omega))
          have hls := nm_less HI.out
          rw [← hx1] at hcj hls
          rw [← HX.out] at hls
          have HX1 := Lib.hid hx1
          clear hx1)
        cases hT : (m1 == 2)
      all_goals
        go_wp2_with (go_at_call 41; refine (table_Find.calls _ _ _ _ _ _ _ HF.out).mono ?_; rintro e w2 ⟨rfl, hb2⟩; have HO3 := Lib.hid (HO.out.kept (row := none) ⟨hb2.os, hb2.tape, hb2.output, hb2.size, fun m hm _ => hb2.block m hm⟩ (Classical.em _)); have HB3 := Lib.hid (HB.out.trans (hb2.mono HB.out.size)); have HS2 := Lib.hid (Nat.lt_of_lt_of_le HG.out hb2.size); have hcA := fun o => behind9 ((hb2.cell (p := ⟨g, _, none⟩) HG.out).trans hci) HS2.out o; try (have hcB := fun o => behind9 ((hb2.cell (p := ⟨g, _, none⟩) HG.out).trans hcj) HS2.out o))
        go_quiet (fail)
        go_wp2
        have HO4 := fun o => Lib.hid ((HO3.out.alloc o).kept (row := none) (w' := (w2.alloc o).drewN nq) ⟨rfl, rfl, rfl, Nat.le_refl _, fun _ _ _ => rfl⟩ (Classical.em _))
        have HB4 := fun o => Lib.hid ((HB3.out.alloc HB3.out.size o).trans (show Below w.heap.size _ ((w2.alloc o).drewN nq) from ⟨rfl, rfl, rfl, Nat.le_refl _, fun _ _ => rfl⟩))
        first
          | exact ⟨⟨j + 1 + 1, c, by omega, by omega, by simp, rfl, Lib.hid (cnt_no HCN.out HM.out (by first | exact hT | rfl)), HO4 _, HB4 _⟩, by simp [intOf] <;> omega⟩
          | exact ⟨⟨j + 1 + 1, c + 1, by omega, by omega, by simp, by simp, Lib.hid (cnt_yes HCN.out HM.out (by first | exact hT | rfl)), HO4 _, HB4 _⟩, by simp [intOf] <;> omega⟩
          | exact ⟨⟨1, c, by omega, by omega, by simp, rfl, Lib.hid (cnt_no HCN.out HM.out (by first | exact hT | rfl)), HO4 _, HB4 _⟩, by simp [intOf] <;> omega⟩
          | exact ⟨⟨1, c + 1, by omega, by omega, by simp, by simp, Lib.hid (cnt_yes HCN.out HM.out (by first | exact hT | rfl)), HO4 _, HB4 _⟩, by simp [intOf] <;> omega⟩
    · obtain rfl : i = 35 := by omega
      have hcv : c = 9 := HCN.out.trans (cnt_end 4)
      subst hcv
      clear hin hi hc
      go_wp2_with (go_at_call 43; refine (awake09 _).mono ?_; rintro e w3 ⟨rfl, hb3⟩; have HB3 := Lib.hid (HB.out.trans (hb3.mono HB.out.size)); clear hb3)
      go_ret
      exact ⟨rfl, HB3.out⟩


set_option maxHeartbeats 8000000 in
set_option maxRecDepth 100000 in
theorem tableKinds_5 (a0 : Int) (hp : wainwrightlaw00_Place.f a0 6 = some 5) (w : World) :
    Calls Try.prog 14 #[.int .i64 a0] w fun e w' => e = .returned (.bool true) ∧ Below w.heap.size w w' := by
  have HP := Lib.hid hp
  clear hp
  have hx : ∀ b0 b1 b2 b3 b4 b5 w_, (Instr.index 69 (.agg #[.bool b0, .bool b1, .bool b2, .bool b3, .bool b4, .bool b5]) (.int .i64 5)).run Try.prog w_ = .ok (.bool b5) w_ := fun _ _ _ _ _ _ _ => by kernel_rfl
  have hy : ∀ w_, (Instr.index 70 (.agg #[.int .i64 6, .int .i64 21, .int .i64 3, .int .i64 21, .int .i64 9, .int .i64 5]) (.int .i64 5)).run Try.prog w_ = .ok (.int .i64 5) w_ := fun _ => by kernel_rfl
  go_enter Try.func14, Try.ntmps14
  go_wp2_with (first
    | (go_at_call 38; refine (table_Names_own _).mono ?_; rintro e w1 ⟨g, cap, rfl, hown, hb⟩; have HO := Lib.hid hown; have HB := Lib.hid hb; clear hown hb)
    | (go_at_call 27; refine (wainwrightlaw00_Place.calls a0 6 5 _ HP.out).mono ?_; rintro e w2 ⟨rfl, nd, rfl⟩))
  have HO2 : Hid ((w1.drewN nd).ownsRow w.heap.size 9 1 (.slice (some ⟨g, 0, none⟩) 35 cap) 35 (namesS.map encStr)) := Lib.hid (HO.out.kept (row := none) ⟨rfl, rfl, rfl, Nat.le_refl _, fun _ _ _ => rfl⟩ (Classical.em _))
  have HB2 : Hid (Below w.heap.size w (w1.drewN nd)) := Lib.hid (HB.out.trans ⟨rfl, rfl, rfl, Nat.le_refl _, fun _ _ => rfl⟩)
  clear HO HB
  obtain ⟨wo, hwo⟩ : ∃ wo, wo = w1.drewN nd := ⟨_, rfl⟩
  rw [← hwo] at HO2 HB2 ⊢
  clear hwo
  go_loopw [5, 6] (fun v5 v6 wr => ∃ i c : Nat, i ≤ 35 ∧ c ≤ i ∧ v6 = .int .i64 i ∧ v5 = .int .i64 c ∧ Hid (c = cnt 5 i) ∧ Hid (wr.ownsRow w.heap.size 9 1 (.slice (some ⟨g, 0, none⟩) 35 cap) 35 (namesS.map encStr)) ∧ Hid (Below w.heap.size w wr)) (fun _ i _ => 35 - (intOf i).toNat)
  case atStart => exact ⟨0, 0, by omega, by omega, rfl, rfl, Lib.hid rfl, HO2, HB2⟩
  case round =>
    obtain ⟨i, c, hi, hc, rfl, rfl, HCN, HO, HB⟩ := hrel
    clear HO2 HB2
    by_cases hin : i < 35
    · have hgl := (HO.out.lt g rfl).2
      obtain ⟨x, hx0⟩ : ∃ x, x = nm i := ⟨_, rfl⟩
      have hci := own_at HO.out i _ (nm_at hin)
      have hfind := nm_find hin
      obtain ⟨⟨m1, m2, lz, pu⟩, hm⟩ : ∃ f, f = infOf (nm i) := ⟨_, rfl⟩
      rw [← hm] at hfind
      rw [← hx0] at hci hfind
      have HF := Lib.hid hfind
      have HM := Lib.hid hm
      have HX := Lib.hid hx0
      have HI := Lib.hid hin
      have HG := Lib.hid hgl
      simp only at HF
      clear hfind hm hx0
      have hi35 : (i : Int) < 35 := by omega
      rcases i with _ | j
      all_goals
        try (
          obtain ⟨x0, hx1⟩ : ∃ x0, x0 = nm j := ⟨_, rfl⟩
          have hcj := own_at HO.out j _ (nm_at (by omega))
          have hls := nm_less HI.out
          rw [← hx1] at hcj hls
          rw [← HX.out] at hls
          have HX1 := Lib.hid hx1
          clear hx1)
        cases hT : (m1 == 3)
      all_goals
        go_wp2_with (go_at_call 41; refine (table_Find.calls _ _ _ _ _ _ _ HF.out).mono ?_; rintro e w2 ⟨rfl, hb2⟩; have HO3 := Lib.hid (HO.out.kept (row := none) ⟨hb2.os, hb2.tape, hb2.output, hb2.size, fun m hm _ => hb2.block m hm⟩ (Classical.em _)); have HB3 := Lib.hid (HB.out.trans (hb2.mono HB.out.size)); have HS2 := Lib.hid (Nat.lt_of_lt_of_le HG.out hb2.size); have hcA := fun o => behind9 ((hb2.cell (p := ⟨g, _, none⟩) HG.out).trans hci) HS2.out o; try (have hcB := fun o => behind9 ((hb2.cell (p := ⟨g, _, none⟩) HG.out).trans hcj) HS2.out o))
        go_quiet (fail)
        go_wp2
        have HO4 := fun o => Lib.hid ((HO3.out.alloc o).kept (row := none) (w' := (w2.alloc o).drewN nq) ⟨rfl, rfl, rfl, Nat.le_refl _, fun _ _ _ => rfl⟩ (Classical.em _))
        have HB4 := fun o => Lib.hid ((HB3.out.alloc HB3.out.size o).trans (show Below w.heap.size _ ((w2.alloc o).drewN nq) from ⟨rfl, rfl, rfl, Nat.le_refl _, fun _ _ => rfl⟩))
        first
          | exact ⟨⟨j + 1 + 1, c, by omega, by omega, by simp, rfl, Lib.hid (cnt_no HCN.out HM.out (by first | exact hT | rfl)), HO4 _, HB4 _⟩, by simp [intOf] <;> omega⟩
          | exact ⟨⟨j + 1 + 1, c + 1, by omega, by omega, by simp, by simp, Lib.hid (cnt_yes HCN.out HM.out (by first | exact hT | rfl)), HO4 _, HB4 _⟩, by simp [intOf] <;> omega⟩
          | exact ⟨⟨1, c, by omega, by omega, by simp, rfl, Lib.hid (cnt_no HCN.out HM.out (by first | exact hT | rfl)), HO4 _, HB4 _⟩, by simp [intOf] <;> omega⟩
          | exact ⟨⟨1, c + 1, by omega, by omega, by simp, by simp, Lib.hid (cnt_yes HCN.out HM.out (by first | exact hT | rfl)), HO4 _, HB4 _⟩, by simp [intOf] <;> omega⟩
    · obtain rfl : i = 35 := by omega
      have hcv : c = 5 := HCN.out.trans (cnt_end 5)
      subst hcv
      clear hin hi hc
      go_wp2_with (go_at_call 43; refine (awake09 _).mono ?_; rintro e w3 ⟨rfl, hb3⟩; have HB3 := Lib.hid (HB.out.trans (hb3.mono HB.out.size)); clear hb3)
      go_ret
      exact ⟨rfl, HB3.out⟩


theorem tableKinds_walk (a0 : Int) (w : World) (_w0 : (Lit.int .i64 a0).wf = true) :
    Calls Try.prog 14 #[.int .i64 a0] w fun e w' => e = .returned (.bool true) ∧ Below w.heap.size w w' := by
  obtain ⟨t, ht, h0, h1⟩ := place a0 6 (by decide) (by decide)
  have : t = 0 ∨ t = 1 ∨ t = 2 ∨ t = 3 ∨ t = 4 ∨ t = 5 := by omega
  rcases this with rfl | rfl | rfl | rfl | rfl | rfl
  · exact tableKinds_0 a0 ht w
  · exact tableKinds_1 a0 ht w
  · exact tableKinds_2 a0 ht w
  · exact tableKinds_3 a0 ht w
  · exact tableKinds_4 a0 ht w
  · exact tableKinds_5 a0 ht w

end Go.Proofs.Ytlnjikneepgpaaa.Pure
