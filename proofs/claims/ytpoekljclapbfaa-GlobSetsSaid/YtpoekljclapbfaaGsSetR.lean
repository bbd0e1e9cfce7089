/- wainwrightref03.set. -/
import Derived.Test.YtpoekljclapbfaaGsFits
import Derived.Test.YtpoekljclapbfaaGsLoad
import Derived.Deep.CutBlock
import Derived.Deep.DeepCutAuto
namespace Go.Proofs.Ytpoekljclapbfaa.Gs
open Go.RowKit Go.Proofs.Ytpoekljclapbfaa.PR Go.Proofs.Ytpoekljclapbfaa.G Go.Proofs.Ytpoekljclapbfaa.P0 Go.Proofs.YtpoekljclapbfaaW.PrintWords Go.Proofs.YtpoekljclapbfaaW.PrintLast

theorem store_two (w : World) (z0 z2 : Array Value) (h0 : z0 = tRow 0 0 (fun _ => false)) (h2 : z2 = tRow 2 0 (fun _ => false)) :
    (storeCells ⟨w.heap.size + 1, 0, none⟩ (z0.toList.set 0 (.int .i64 2))).run Try.prog ((w.alloc (.cells z0 45)).alloc (.cells z0 45)) = .ok () ((w.alloc (.cells z0 45)).alloc (.cells z2 45)) := by
  have e : (w.alloc (.cells z0 45)).heap.size = w.heap.size + 1 := by show (w.heap.push _).size = _; simp
  have h := run_storeCells_new (P := Try.prog) (w.alloc (.cells z0 45)) 45 z0 z2 (by rw [h2, tRow_size]; exact t_zero.2) (by rw [h0, h2, tRow_size, tRow_size]) (by rw [h2]; exact tRow_one _ _ _)
  rw [e] at h
  have e2 : z0.toList.set 0 (.int .i64 2) = z2.toList := by rw [h0, h2]; rfl
  rw [e2]
  exact h
theorem frozen_of_block {w : World} {b j : Nat} {C : Array Value} {t : TypeId} (h : w.heap[b]? = some (.cells C t (0, 0))) : w.frozen? ⟨b, j, none⟩ = false := by
  simp [World.frozen?, h]
/-- The result's cell and the box of the set under way. -/
structure SetR (w wx : World) (g : Nat → Bool) : Prop where
  h0 : wx.heap[w.heap.size]? = some (.cells (tRow 0 0 (fun _ => false)) 45 (0, 0))
  h1 : wx.heap[w.heap.size + 1]? = some (.cells (tRow 2 0 g) 45 (0, 0))
  hb : Below w.heap.size w wx
theorem SetR.kept {w wx wy : World} {g : Nat → Bool} (h : SetR w wx g) (hk : wy.heap = wx.heap) (hb : Below w.heap.size w wy) : SetR w wy g := ⟨by rw [hk]; exact h.h0, by rw [hk]; exact h.h1, hb⟩
theorem SetR.drew {w wx : World} {g : Nat → Bool} (h : SetR w wx g) (m : Nat) : SetR w (wx.drewN m) g := ⟨h.h0, h.h1, h.hb.trans ⟨rfl, rfl, rfl, Nat.le_refl _, fun _ _ => rfl⟩⟩
theorem SetR.put {w wx : World} {g : Nat → Bool} (h : SetR w wx g) (i : Nat) (v : Bool) : SetR w (wx.setCell ⟨w.heap.size + 1, i + 2, none⟩ (.bool v)) (fun n => if n = i then v else g n) := by
  refine ⟨blk_far h.h0 (by show w.heap.size ≠ w.heap.size + 1; omega) _, ?_, h.hb.setCell (by show w.heap.size ≤ w.heap.size + 1; omega) _⟩
  have := blk_set h.h1 (i + 2) (.bool v)
  rw [tRow_set] at this
  exact this
theorem SetR.round {w wx : World} {g : Nat → Bool} {k : Nat} {nt : Bool} (h : SetR w wx (fun n => if n < k then (g n != nt) else g n)) : SetR w (wx.setCell ⟨w.heap.size + 1, 2 + k, none⟩ (.bool (g k != nt))) (fun n => if n < k + 1 then (g n != nt) else g n) := by
  have h2 := h.put k (g k != nt)
  rw [Nat.add_comm k 2] at h2
  have e : (fun n => if n = k then (g k != nt) else (fun n => if n < k then (g n != nt) else g n) n) = (fun n => if n < k + 1 then (g n != nt) else g n) := by
    funext n
    by_cases h1 : n = k
    · subst h1; simp
    · by_cases h2 : n < k
      · simp [h1, h2, Nat.lt_succ_of_lt h2]
      · have : ¬ n < k + 1 := by omega
        simp [h1, h2, this]
  rw [e] at h2
  exact h2
theorem SetR.start (w : World) (z0 z2 : Array Value) (h0 : z0 = tRow 0 0 (fun _ => false)) (h2 : z2 = tRow 2 0 (fun _ => false)) : SetR w ((w.alloc (.cells z0 45)).alloc (.cells z2 45)) (fun _ => false) := by
  subst h0 h2
  have e : (w.alloc (.cells (tRow 0 0 (fun _ => false)) 45)).heap.size = w.heap.size + 1 := by show (w.heap.push _).size = _; simp
  refine ⟨?_, ?_, ((Below.refl _ w).alloc (Nat.le_refl _) _).alloc (by omega) _⟩
  · exact (Below.heap_alloc _ _ _ (by omega)).trans (heap_alloc_last w _)
  · have := heap_alloc_last (w.alloc (.cells (tRow 0 0 (fun _ => false)) 45)) (.cells (tRow 2 0 (fun _ => false)) 45)
    rw [e] at this
    exact this
theorem at_drop {p : ByteArray} {i : Nat} {c : UInt8} {r : List UInt8} (h : p.data.toList.drop i = c :: r) : ∃ hi : i < p.size, p[i]'hi = c := by
  obtain ⟨_, hi, _⟩ := bt_drop h
  refine ⟨hi, ?_⟩
  have := List.drop_eq_getElem_cons (show i < p.data.toList.length from hi)
  rw [h] at this
  exact (List.cons.inj this).1.symm
theorem store_row (w : World) (b : Nat) (old cs : Array Value) (hg : w.heap[b]? = some (.cells old 45 (0, 0))) (ho : old.size = 258) (hs : cs.size = 258) (h1 : cs.all (·.oneCell') = true) :
    (storeCells ⟨b, 0, none⟩ cs.toList).run Try.prog w = .ok () (w.setRow b cs) := by
  have := run_storeVar_row (P := Try.prog) w b 45 45 old cs hg (by rw [hs]; exact t_zero.2) (by omega) h1
  cases hq : Try.prog.info? 45 with
  | none => have := t_zero.2; rw [hq] at this; cases this
  | some i =>
    have hs : cs.size = i.size := by have h := t_zero.2; rw [hq] at h; simp at h; omega
    simpa [storeVar, sizeOf, typeInfo, hq, Value.cells, hs] using this
theorem load_row (w : World) (b : Nat) (cs : Array Value) (hg : w.heap[b]? = some (.cells cs 45 (0, 0))) (hs : cs.size = 258) :
    (loadCellsFrom ⟨b, 0, none⟩ 0 258 #[]).run Try.prog w = .ok cs w := by
  rw [← hs]
  have := run_loadCells_list (P := Try.prog) w ⟨b, 0, none⟩ cs.toList (fun j v hv => by
    have hadd : (⟨b, 0, none⟩ : Addr).add j = ⟨b, j, none⟩ := by unfold Addr.add; split <;> simp_all
    rw [hadd, cell_of_block hg]
    simpa using hv)
  simpa [loadCells] using this
theorem load_T (w : World) (b : Nat) (cs : Array Value) (hg : w.heap[b]? = some (.cells cs 45 (0, 0))) (hs : cs.size = 258) : (loadVar 45 ⟨b, 0, none⟩).run Try.prog w = .ok (.agg cs) w :=
  run_loadVar_row (P := Try.prog) w b 45 45 cs (0, 0) _ hg Try.underlying45 rfl (by rw [hs]; exact t_zero.2)
/-- How far the set is read. -/
structure Read (p : ByteArray) (i0 M j : Nat) (f : Bool) (g : Nat → Bool) : Prop where
  le : j ≤ p.size
  lo : i0 ≤ j
  its : ∃ (l : List (UInt8 × UInt8)) (m : Nat), (∀ n, n < 256 → g n = l.any (fun q => decide (q.1.toNat ≤ n) && decide (n ≤ q.2.toNat))) ∧ (p.data.toList.drop j).length < m ∧
    rItems M true (p.data.toList.drop i0) = (rItems m f (p.data.toList.drop j)).map (fun q => (l ++ q.1, q.2))

theorem one_at {p : ByteArray} {i lo j1 : Int} (h : wainwrightref03_one.f p i = some (lo, j1)) (w : World) :
    Calls Try.prog 24 #[.string p, .int .i64 i] w fun e w' => e = .returned (.tuple #[.int .u8 lo, .int .i64 j1]) ∧ ∃ m, w' = w.drewN m := by
  refine (wainwrightref03_one.calls p i _ _ w h).mono ?_
  rintro e w' ⟨rfl, hd⟩
  exact ⟨rfl, hd.out⟩
theorem SetR.range {w wx : World} {g : Nat → Bool} {lo n : Nat} (hl : lo ≤ n) (h : SetR w wx (fun b => g b || (decide (lo ≤ b) && decide (b < n)))) : SetR w (wx.setCell ⟨w.heap.size + 1, 2 + n, none⟩ (.bool true)) (fun b => g b || (decide (lo ≤ b) && decide (b < n + 1))) := by
  have h2 := h.put n true
  rw [Nat.add_comm n 2] at h2
  have e : (fun b => if b = n then true else (fun b => g b || (decide (lo ≤ b) && decide (b < n))) b) = (fun b => g b || (decide (lo ≤ b) && decide (b < n + 1))) := by
    funext b
    by_cases h1 : b = n
    · subst h1; simp [hl]
    · have : (b < n + 1) = (b < n) := by simp only [eq_iff_iff]; omega
      simp [h1, this]
  rw [e] at h2
  exact h2
theorem SetR.alike {w wx : World} {g g' : Nat → Bool} (h : SetR w wx g) (hg : ∀ b, b < 256 → g b = g' b) : SetR w wx g' := by
  have e : tRow 2 0 g = tRow 2 0 g' := by
    unfold tRow bits
    congr 3
    exact List.map_congr_left (fun i hi => by rw [hg i (List.mem_range.mp hi)])
  exact ⟨h.h0, by rw [← e]; exact h.h1, h.hb⟩
/-- The set is not over. -/
def NoEnd (c : UInt8) (f : Bool) : Prop := ¬ (c = 93 ∧ f = false)
/-- One item more. -/
theorem Read.more {p : ByteArray} {i0 M j j1 : Nat} {f : Bool} {g : Nat → Bool} {c : UInt8} {r : List UInt8} (h : Read p i0 M j f g) (hd : p.data.toList.drop j = c :: r) (_hc : ¬ (c = 93 ∧ f = false)) (lo hi : UInt8) (hj : j < j1) (hz : j1 ≤ p.size)
    (hit : ∀ n, rItems (n + 1) f (c :: r) = (rItems n false (p.data.toList.drop j1)).map (fun q => ((lo, hi) :: q.1, q.2))) :
    Read p i0 M j1 false (fun b => g b || (decide (lo.toNat ≤ b) && decide (b < max lo.toNat (hi.toNat + 1)))) := by
  obtain ⟨l, m, h1, h2, h3⟩ := h.its
  have hl : ∀ k, (p.data.toList.drop k).length = p.size - k := fun k => by rw [List.length_drop]; rfl
  rw [hl] at h2
  obtain ⟨m, rfl⟩ : ∃ k, m = k + 1 := ⟨m - 1, by omega⟩
  have hjz : j < p.size := by have := hl j; rw [hd] at this; simp at this; omega
  refine ⟨hz, by have := h.lo; omega, l ++ [(lo, hi)], m, fun n hn => ?_, by rw [hl]; omega, ?_⟩
  · rw [h1 n hn, List.any_append]
    congr 1
    simp only [List.any_cons, List.any_nil, Bool.or_false]
    rw [Bool.eq_iff_iff]
    simp only [Bool.and_eq_true, decide_eq_true_eq]
    omega
  · rw [h3, hd, hit]
    cases rItems m false (p.data.toList.drop j1) with
    | none => rfl
    | some q => simp

theorem below_setRow {n : Nat} {w w' : World} (h : Below n w w') {b : Nat} (hb : n ≤ b) (cs : Array Value) : Below n w (w'.setRow b cs) :=
  ⟨h.os, h.tape, h.output, by show w.heap.size ≤ (w'.heap.modify b _).size; rw [Array.size_modify]; exact h.size, fun k hk => by
    rw [← h.block k hk]
    show (w'.heap.modify b _)[k]? = _
    rw [Array.getElem?_modify, if_neg (by omega)]⟩
/-- What set answers. -/
def SetPost (p : ByteArray) (i : Nat) (w : World) (e : Ending) (w' : World) : Prop := (match refSet (p.data.toList.drop i) with
      | none => e = .returned (.tuple #[.agg (tRow 0 0 (fun _ => false)), .int .i64 (-1)])
      | some (f, r) => ∃ j : Nat, e = .returned (.tuple #[.agg (tRow 2 0 (fun n => f (UInt8.ofNat n))), .int .i64 j]) ∧ p.data.toList.drop j = r ∧ i < j ∧ j ≤ p.size) ∧ Below w.heap.size w w'
/-- The end of a set. -/
theorem SetPost.done {p : ByteArray} {i q0 M j : Nat} {g : Nat → Bool} {r : List UInt8} {w w' : World} (hI : p.data.toList.drop q0 = behindNot (p.data.toList.drop i)) (hM : M = (p.data.toList.drop i).length + 1) (hiq : i ≤ q0) (hR : Read p q0 M j false g) (hd : p.data.toList.drop j = 93 :: r) (hb : Below w.heap.size w w') (cs : Array Value)
    (hcs : cs = tRow 2 0 (fun n => if n < 256 then (g n != isNot (p.data.toList.drop i)) else g n)) : SetPost p i w (.returned (.tuple #[.agg cs, .int .i64 ((j : Int) + 1)])) w' := by
  obtain ⟨l, m, h1, h2, h3⟩ := hR.its
  have hs : refSet (p.data.toList.drop i) = some (setF (isNot (p.data.toList.drop i)) l, r) := by
    unfold refSet
    rw [← hI, ← hM, h3, hd]
    rw [hd] at h2
    obtain ⟨m, rfl⟩ : ∃ k, m = k + 1 := ⟨m - 1, by simp at h2; omega⟩
    simp [rItems]
  unfold SetPost
  rw [hs]
  have hjz : j < p.size := by
    have : (p.data.toList.drop j).length = p.size - j := by rw [List.length_drop]; rfl
    rw [hd] at this; simp at this; omega
  refine ⟨⟨j + 1, ?_, ?_, by have := hR.lo; omega, by omega⟩, hb⟩
  · rw [hcs]
    have e : tRow 2 0 (fun n => if n < 256 then (g n != isNot (p.data.toList.drop i)) else g n) = tRow 2 0 (fun n => setF (isNot (p.data.toList.drop i)) l (UInt8.ofNat n)) := by
      unfold tRow bits
      congr 3
      refine List.map_congr_left (fun n hn => ?_)
      have hn := List.mem_range.mp hn
      show Value.bool (if n < 256 then (g n != isNot (p.data.toList.drop i)) else g n) = Value.bool (setF (isNot (p.data.toList.drop i)) l (UInt8.ofNat n))
      rw [if_pos hn, h1 n hn]
      unfold setF
      have : (UInt8.ofNat n).toNat = n := by simp; omega
      simp only [UInt8.le_iff_toNat_le, this]
    rw [e]
    simp
  · have := congrArg List.tail hd
    rw [List.tail_drop] at this
    exact this
set_option maxHeartbeats 4000000 in
set_option maxRecDepth 100000 in
theorem set_calls (p : ByteArray) (hp : p.size < 1099511627776) (i : Nat) (hi : i ≤ p.size) (w : World) :
    Calls Try.prog 29 #[.string p, .int .i64 i] w fun e w' => SetPost p i w e w' := by
  have hz := t_zero.1
  have hsz := tRow_size 0 0 (fun _ => false)
  obtain ⟨z0, hz0⟩ : ∃ cs, cs = tRow 0 0 (fun _ => false) := ⟨_, rfl⟩
  obtain ⟨z2, hz2⟩ : ∃ cs, cs = tRow 2 0 (fun _ => false) := ⟨_, rfl⟩
  have hst := store_two w z0 z2 hz0 hz2
  have HS0 := Lib.hid (SetR.start w z0 z2 hz0 hz2)
  rw [← hz0] at hsz hz
  have hne : ¬ z0 = #[] := by intro e; rw [e] at hsz; simp at hsz
  have HZ0 := Lib.hid hz0
  have HZ2 := Lib.hid hz2
  clear hz0 hz2
  have hcase : ∃ nt i0, isNot (p.data.toList.drop i) = nt ∧ p.data.toList.drop i0 = behindNot (p.data.toList.drop i) ∧ i0 ≤ p.size ∧ i ≤ i0 ∧ ((nt = false ∧ i = i0 ∧ ((¬ ((i : Int) < (p.size : Int))) ∨ ∃ h : i < p.size, ((((p[i]'h).toNat : Int) == 33) = false ∧ (((p[i]'h).toNat : Int) == 94) = false))) ∨ (nt = true ∧ i0 = i + 1 ∧ ∃ h : i < p.size, (((p[i]'h).toNat : Int) == 33) = true ∨ ((((p[i]'h).toNat : Int) == 33) = false ∧ (((p[i]'h).toNat : Int) == 94) = true))) := by
    cases hd : p.data.toList.drop i with
    | nil => exact ⟨false, i, rfl, by rw [hd]; rfl, hi, Nat.le_refl _, Or.inl ⟨rfl, rfl, Or.inl (by have := drop_nil hd; omega)⟩⟩
    | cons c r =>
      obtain ⟨h, hx⟩ := at_drop hd
      obtain ⟨_, _, hr⟩ := bt_drop hd
      by_cases h33 : c = 33
      · subst h33
        exact ⟨true, i + 1, rfl, by rw [hr]; rfl, by omega, by omega, Or.inr ⟨rfl, rfl, h, Or.inl (by rw [hx]; rfl)⟩⟩
      · have e33 : (((p[i]'h).toNat : Int) == 33) = false := by rw [hx]; exact beq_eq_false_iff_ne.mpr (neC 33 33 rfl h33)
        by_cases h94 : c = 94
        · subst h94
          exact ⟨true, i + 1, rfl, by rw [hr]; rfl, by omega, by omega, Or.inr ⟨rfl, rfl, h, Or.inr ⟨e33, by rw [hx]; rfl⟩⟩⟩
        · have hn : isNot (c :: r) = false := by simp [isNot, h33, h94]
          exact ⟨false, i, hn, by rw [hd]; simp [behindNot, hn], hi, Nat.le_refl _, Or.inl ⟨rfl, rfl, Or.inr ⟨h, e33, by rw [hx]; exact beq_eq_false_iff_ne.mpr (neC 94 94 rfl h94)⟩⟩⟩
  obtain ⟨nt, i0, hnt, hi0, hiz, hii, hcs⟩ := hcase
  obtain ⟨q0, hq0⟩ : ∃ q0, q0 = i0 := ⟨_, rfl⟩
  have HQ := Lib.hid hii
  have HNT := Lib.hid hnt
  have HI0 := Lib.hid hi0
  have HCS := Lib.hid hcs
  obtain ⟨M, hM⟩ : ∃ M, M = (p.data.toList.drop i).length + 1 := ⟨_, rfl⟩
  have HM := Lib.hid hM
  have HRD : Hid (Read p q0 M i0 true (fun _ => false)) := Lib.hid ⟨hiz, by omega, [], M, fun n _ => rfl, by rw [hM]; simp; omega, by rw [hq0]; simp⟩
  rw [← hq0] at HI0
  have HQ0 := Lib.hid hq0
  clear hnt hi0 hii hq0 hM hcs
  go_enter Try.func29, Try.ntmps29
  go_upto_region 2 with fail
  go_cut [7] (fun v7 wx => v7 = .bool nt ∧ Hid (SetR w wx (fun _ => false)))
  case first =>
    rcases HCS.out with ⟨rfl, rfl, g1 | ⟨hlt, e33, e94⟩⟩ | ⟨rfl, rfl, hlt, e33 | ⟨e33, e94⟩⟩
    all_goals
      go_wp2
      go_meet
      exact ⟨rfl, HS0⟩
  case rest =>
    obtain ⟨rfl, HS1⟩ := hcut
    have hnc : (nt = false ∧ i = i0) ∨ (nt = true ∧ (i : Int) + 1 = (i0 : Int)) := by
      rcases HCS.out with ⟨h1, h2, _⟩ | ⟨h1, h2, _⟩
      · exact Or.inl ⟨h1, h2⟩
      · exact Or.inr ⟨h1, by omega⟩
    go_upto_if 31 with fail
    go_cut [1] (fun v1 wx => v1 = .int .i64 i0 ∧ Hid (SetR w wx (fun _ => false)))
    case first =>
      rcases hnc with ⟨rfl, rfl⟩ | ⟨rfl, hi1⟩
      · go_wp2
        go_meet
        exact ⟨rfl, HS1⟩
      · have hw1 : IntKind.i64.wrap ((i : Int) + 1) = (i0 : Int) := by rw [hi1]; exact IntWalk.i64_in _ (by omega)
        go_wp2
        go_meet
        exact ⟨rfl, HS1⟩
    case rest =>
      obtain ⟨rfl, HS2⟩ := hcut
      clear hnc HS1
      go_wp2
      go_loopw [1, 8] (fun v1 v8 wx => ∃ (j : Nat) (f : Bool) (g : Nat → Bool), j ≤ p.size ∧ v1 = .int .i64 j ∧ v8 = .bool f ∧ Hid (Read p q0 M j f g) ∧ Hid (SetR w wx g)) (fun i _ _ => p.size - (intOf i).toNat)
      case atStart => exact ⟨_, true, _, hiz, by first | rfl | go_num, rfl, HRD, HS2⟩
      case round =>
        obtain ⟨j, f, g, hj, rfl, rfl, HR, HS⟩ := hrel
        cases hd : p.data.toList.drop j with
        | nil =>
          have hpj := drop_nil hd
          have g2 : ¬ ((j : Int) < (p.size : Int)) := by omega
          have g3 : (p.size : Int) ≤ (j : Int) := by omega
          have hsr : (storeCells ⟨w.heap.size, 0, none⟩ z0.toList).run Try.prog wr = .ok () wr := by
            have h0 := HS.out.h0
            rw [← HZ0.out] at h0
            have := store_row wr w.heap.size z0 z0 h0 hsz hsz (by rw [HZ0.out]; exact tRow_one _ _ _)
            rwa [setRow_self wr w.heap.size z0 _ _ h0] at this
          have hld := Lib.hid (load_T wr w.heap.size z0 (by have h0 := HS.out.h0; rw [← HZ0.out] at h0; exact h0) hsz)
          go_wp2
          (try simp only [Exit.inBlock, Exit.then])
          refine bodyPost_ret (v := .tuple #[.agg z0, .int .i64 (-1)]) ?_ rfl ?_
          · rw [results_cell_tmp rfl]
            simp [asAddr, Result.andThen, hld.out]
          · obtain ⟨l, m, h1, h2, h3⟩ := HR.out.its
            have hn : refSet (p.data.toList.drop i) = none := by
              unfold refSet
              rw [← HI0.out, ← HM.out, h3, hd]
              cases m <;> rfl
            unfold SetPost
            rw [hn, HZ0.out]
            exact ⟨rfl, HS.out.hb⟩
        | cons c r =>
          obtain ⟨hlt2, hx2⟩ := at_drop hd
          have g2 : ((j : Int) < (p.size : Int)) := by omega
          by_cases hc : c = 93 ∧ f = false
          · obtain ⟨rfl, rfl⟩ := hc
            have e2 : (((p[j]'hlt2).toNat : Int) == 93) = true := by rw [hx2]; rfl
            have g3 : ¬ ((p.size : Int) ≤ (j : Int)) := by omega
            go_wp2
            go_loopw [13] (fun v13 wx => ∃ k : Nat, k ≤ 256 ∧ v13 = .int .i64 k ∧ Hid (SetR w wx (fun n => if n < k then (g n != isNot (p.data.toList.drop i)) else g n))) (fun v _ => 256 - (intOf v).toNat)
            case atStart => exact ⟨0, by omega, rfl, by simpa using HS⟩
            case round =>
              obtain ⟨k, hk, rfl, HK⟩ := hrel
              by_cases hk2 : k < 256
              · have g4 : ((k : Int) < 256) := by omega
                have c1 := (tRow_cell HK.out.h1).2.2 k hk2
                have f1 := frozen_of_block (j := k + 2) HK.out.h1
                rw [Nat.add_comm k 2, if_neg (Nat.lt_irrefl k)] at c1
                rw [Nat.add_comm k 2] at f1
                go_wp2
                refine ⟨⟨k + 1, by omega, by go_num, Lib.hid ?_⟩, by simp [intOf]; omega⟩
                have h := HK.out.round
                rw [HNT.out] at h ⊢
                exact h
              · obtain rfl : k = 256 := by omega
                obtain ⟨cs, hcs⟩ : ∃ cs, cs = tRow 2 0 (fun n => if n < 256 then (g n != isNot (p.data.toList.drop i)) else g n) := ⟨_, rfl⟩
                have hcz : cs.size = 258 := by rw [hcs]; exact tRow_size _ _ _
                have hc1 := HK.out.h1
                rw [← hcs] at hc1
                have HL1 := Lib.hid (load_T wr (w.heap.size + 1) cs hc1 hcz)
                have hst1 := store_row wr w.heap.size _ cs HK.out.h0 (tRow_size _ _ _) hcz (by rw [hcs]; exact tRow_one _ _ _)
                have HLD := Lib.hid (load_T (wr.setRow w.heap.size cs) w.heap.size cs (setRow_heap _ _ _ _ _ _ HK.out.h0) hcz)
                have HCS2 := Lib.hid hcs
                clear hcs hc1
                have hje : IntKind.i64.wrap ((j : Int) + 1) = (j : Int) + 1 := IntWalk.i64_in _ (by omega)
                go_wp2
                refine wp_load rfl rfl HL1.out ?_
                go_wp2
                (try simp only [Exit.inBlock, Exit.then])
                refine bodyPost_ret (v := .tuple #[.agg cs, .int .i64 ((j : Int) + 1)]) ?_ rfl ?_
                · rw [results_cell_tmp rfl]
                  simp [asAddr, Result.andThen, HLD.out]
                · exact SetPost.done HI0.out HM.out (by rw [HQ0.out]; exact HQ.out) HR.out hd (below_setRow HK.out.hb (Nat.le_refl _) _) cs HCS2.out
          · obtain ⟨j1, hf1, hd1, hj1, hz1⟩ := one_f p hp j c r hd
            obtain ⟨lo, hlo⟩ : ∃ lo, lo = (oneB (c :: r)).1 := ⟨_, rfl⟩
            obtain ⟨L1, hL1⟩ : ∃ L1, L1 = (oneB (c :: r)).2 := ⟨_, rfl⟩
            rw [← hL1] at hd1
            rw [← hlo] at hf1
            have HC1 := Lib.hid (fun w => one_at hf1 w)
            have hcond : f = true ∨ (f = false ∧ (((p[j]'hlt2).toNat : Int) == 93) = false) := by
              cases f with
              | true => exact Or.inl rfl
              | false => exact Or.inr ⟨rfl, by rw [hx2]; exact beq_eq_false_iff_ne.mpr (neC 93 93 rfl (fun e => hc ⟨e, rfl⟩))⟩
            have HX2 := Lib.hid hx2
            have HCN : Hid (NoEnd c f) := Lib.hid hc
            have HD := Lib.hid hd
            have HD1 := Lib.hid hd1
            have HL1 := Lib.hid hL1
            have HLO := Lib.hid hlo
            have HJ1 := Lib.hid (show j < j1 ∧ j1 ≤ p.size from ⟨hj1, hz1⟩)
            clear hx2 hc hd hd1 hL1 hlo hf1 hj1
            have hlo8 : lo.toNat < 256 := lo.toNat_lt
            -- the rest, once the item is known: its upper end, what is behind
            rcases hcond with rfl | ⟨rfl, e93⟩
            all_goals
              go_upto_region 10 with (go_at_call 24; refine (HC1.out _).mono ?_; rintro e w1 ⟨rfl, m1, rfl⟩)
              obtain ⟨q, hq⟩ : ∃ q, q = (rdash L1).isSome := ⟨_, rfl⟩
              have HQ1 := Lib.hid hq
              clear hq
              go_cut [71] (fun v71 wx => v71 = .bool q ∧ Hid (SetR w wx g))
              case first =>
                obtain ⟨k1, hk1⟩ : ∃ k1, k1 = j1 + 1 := ⟨_, rfl⟩
                have hw1 : IntKind.i64.wrap ((j1 : Int) + 1) = (k1 : Int) := by rw [hk1]; exact IntWalk.i64_in _ (by omega)
                cases hL : L1 with
                | nil =>
                  have hz2 := HD1.out
                  rw [hL] at hz2
                  have hz3 := drop_nil hz2
                  have g6 : ¬ ((k1 : Int) < (p.size : Int)) := by omega
                  have hqf : q = false := by rw [HQ1.out, hL]; rfl
                  subst hqf
                  clear hz2 hz3 hL hk1
                  go_wp2
                  go_meet
                  exact ⟨rfl, HS.out.drew m1⟩
                | cons a r1 =>
                  have hd2 := HD1.out
                  rw [hL] at hd2
                  obtain ⟨ha1, ha2⟩ := at_drop hd2
                  obtain ⟨_, _, hd3⟩ := bt_drop hd2
                  cases r1 with
                  | nil =>
                    have hz3 := drop_nil hd3
                    have g6 : ¬ ((k1 : Int) < (p.size : Int)) := by omega
                    have hqf : q = false := by rw [HQ1.out, hL]; rfl
                    subst hqf
                    clear hd2 hd3 hz3 hL hk1 ha2
                    go_wp2
                    go_meet
                    exact ⟨rfl, HS.out.drew m1⟩
                  | cons x r2 =>
                    obtain ⟨hx1, hx3⟩ := at_drop hd3
                    rw [← hk1] at hd3
                    obtain ⟨hk2, hk3⟩ := at_drop hd3
                    have g6 : ((k1 : Int) < (p.size : Int)) := by omega
                    by_cases h45 : a = 45
                    · have e45 : (((p[j1]'ha1).toNat : Int) == 45) = true := by rw [ha2, h45]; rfl
                      by_cases h93 : x = 93
                      · have e93b : (((p[k1]'hk2).toNat : Int) == 93) = true := by rw [hk3, h93]; rfl
                        have hqf : q = false := by rw [HQ1.out, hL]; simp [rdash, h93]
                        subst hqf
                        clear hd2 hd3 hL hk1 ha2 hx1 hx3 hk3 h45 h93
                        go_wp2
                        go_meet
                        exact ⟨by rw [bne, e93b]; rfl, HS.out.drew m1⟩
                      · have e93b : (((p[k1]'hk2).toNat : Int) == 93) = false := by rw [hk3]; exact beq_eq_false_iff_ne.mpr (neC 93 93 rfl h93)
                        have hqf : q = true := by rw [HQ1.out, hL]; simp [rdash, h93, h45]
                        subst hqf
                        clear hd2 hd3 hL hk1 ha2 hx1 hx3 hk3 h45 h93
                        go_wp2
                        go_meet
                        exact ⟨by rw [bne, e93b]; rfl, HS.out.drew m1⟩
                    · have e45 : (((p[j1]'ha1).toNat : Int) == 45) = false := by rw [ha2]; exact beq_eq_false_iff_ne.mpr (neC 45 45 rfl h45)
                      have hqf : q = false := by rw [HQ1.out, hL]; simp [rdash, h45]
                      subst hqf
                      clear hd2 hd3 hL hk1 ha2 hx1 hx3 hk3 h45
                      go_wp2
                      go_meet
                      exact ⟨rfl, HS.out.drew m1⟩
              case rest =>
                obtain ⟨rfl, HS3⟩ := hcut
                cases q with
                | false =>
                  have hrd : rdash L1 = none := by have := HQ1.out; cases h : rdash L1 with | none => rfl | some _ => rw [h] at this; cases this
                  have HSX := HS3
                  have hj1b := HJ1.out
                  obtain ⟨U, hU⟩ : ∃ U, U = max lo.toNat (lo.toNat + 1) := ⟨_, rfl⟩
                  have HRM : Hid (Read p q0 M j1 false (fun b => g b || (decide (lo.toNat ≤ b) && decide (b < U)))) := Lib.hid (by
                    rw [hU]
                    exact Read.more HR.out HD.out HCN.out lo lo (by omega) (by omega) (fun n => by
                      rw [rItems, if_neg HCN.out, ← HL1.out, hrd]
                      rw [HD1.out, ← HLO.out]))
                  have HU := Lib.hid hU
                  have hv8 : lo.toNat < 256 := lo.toNat_lt
                  clear hU hrd hj1b
                  go_wp2
                  go_loopw [12] (fun v12 wx => ∃ n : Nat, lo.toNat ≤ n ∧ n ≤ U ∧ v12 = .int .i64 n ∧ Hid (SetR w wx (fun b => g b || (decide (lo.toNat ≤ b) && decide (b < n))))) (fun v _ => U - (intOf v).toNat)
                  case atStart =>
                    exact ⟨lo.toNat, Nat.le_refl _, by have := HU.out; omega, by first | rfl | go_num, Lib.hid (HSX.out.alike (fun b _ => by
                      have : (decide (lo.toNat ≤ b) && decide (b < lo.toNat)) = false := by
                        rw [Bool.eq_false_iff]; simp only [ne_eq, Bool.and_eq_true, decide_eq_true_eq]; omega
                      rw [this, Bool.or_false]))⟩
                  case round =>
                    obtain ⟨n, hn1, hn2, rfl, HN⟩ := hrel
                    by_cases hn3 : n < U
                    · have g7 : ((n : Int) ≤ (lo.toNat : Int)) := by have := HU.out; omega
                      have g8 : ((n : Int) < 256) := by omega
                      have c1 := (tRow_cell HN.out.h1).2.2 n (by omega)
                      have f1 := frozen_of_block (j := n + 2) HN.out.h1
                      rw [Nat.add_comm n 2] at c1 f1
                      have HNN := Lib.hid (show lo.toNat ≤ n ∧ n < U from ⟨hn1, hn3⟩)
                      obtain ⟨bv, hbv⟩ : ∃ bv, bv = (g n || (decide (lo.toNat ≤ n) && decide (n < n))) := ⟨_, rfl⟩
                      rw [← hbv] at c1
                      clear hn3 hn1 hn2 hbv
                      go_wp2
                      exact ⟨⟨n + 1, by have := HNN.out; omega, by have := HNN.out; omega, by go_num, Lib.hid (HN.out.range HNN.out.1)⟩, by have := HNN.out; simp [intOf]; omega⟩
                    · have g7 : ¬ ((n : Int) ≤ (lo.toNat : Int)) := by have := HU.out; omega
                      have hne2 : n = U := by omega
                      have HN2 := HN
                      rw [hne2] at HN2
                      clear hn3 hne2 hn1 hn2
                      go_wp2
                      exact ⟨⟨j1, false, _, by have := HJ1.out; omega, by first | rfl | go_num, rfl, HRM, HN2⟩, by have := HJ1.out; simp [intOf]; omega⟩
                | true =>
                  obtain ⟨v2, hrd⟩ : ∃ v2, rdash L1 = some v2 := by have := HQ1.out; cases h : rdash L1 with | none => rw [h] at this; cases this | some v2 => exact ⟨v2, rfl⟩
                  obtain ⟨x, r2, hL, rfl⟩ : ∃ x r2, L1 = 45 :: x :: r2 ∧ v2 = x :: r2 := by
                    match hL : L1, hrd with
                    | a :: x :: r2, hrd =>
                      simp only [rdash] at hrd
                      split at hrd
                      · rename_i ha; obtain rfl := Option.some.inj hrd; exact ⟨x, r2, by rw [ha.1], rfl⟩
                      · cases hrd
                  have hd4 := HD1.out
                  rw [hL] at hd4
                  obtain ⟨_, _, hd5⟩ := bt_drop hd4
                  obtain ⟨k1, hk1⟩ : ∃ k1, k1 = j1 + 1 := ⟨_, rfl⟩
                  have hw1 : IntKind.i64.wrap ((j1 : Int) + 1) = (k1 : Int) := by rw [hk1]; exact IntWalk.i64_in _ (by have := HJ1.out; omega)
                  rw [← hk1] at hd5
                  obtain ⟨jn, hf2, hd6, hj2, hz2⟩ := one_f p hp k1 x r2 hd5
                  obtain ⟨hv, hhv⟩ : ∃ hv, hv = (oneB (x :: r2)).1 := ⟨_, rfl⟩
                  rw [← hhv] at hf2
                  have HC2 := Lib.hid (fun w => one_at hf2 w)
                  have hj1b := HJ1.out
                  have HJN := Lib.hid (show j < jn ∧ jn ≤ p.size by omega)
                  obtain ⟨U, hU⟩ : ∃ U, U = max lo.toNat (hv.toNat + 1) := ⟨_, rfl⟩
                  have HRM : Hid (Read p q0 M jn false (fun b => g b || (decide (lo.toNat ≤ b) && decide (b < U)))) := Lib.hid (by
                    rw [hU]
                    exact Read.more HR.out HD.out HCN.out lo hv (by omega) (by omega) (fun n => by
                      rw [rItems, if_neg HCN.out, ← HL1.out, hrd]
                      simp only
                      rw [hd6, ← HLO.out, ← hhv]))
                  have HU := Lib.hid hU
                  have hv8 : hv.toNat < 256 := hv.toNat_lt
                  clear hU hrd hj1b hd4 hd5 hd6 hj2 hz2 hhv hf2 hk1 hL
                  go_wp2_with (go_at_call 24; refine (HC2.out _).mono ?_; rintro e w1 ⟨rfl, m2, rfl⟩)
                  have HSX := Lib.hid (HS3.out.drew m2)
                  go_loopw [12] (fun v12 wx => ∃ n : Nat, lo.toNat ≤ n ∧ n ≤ U ∧ v12 = .int .i64 n ∧ Hid (SetR w wx (fun b => g b || (decide (lo.toNat ≤ b) && decide (b < n))))) (fun v _ => U - (intOf v).toNat)
                  case atStart =>
                    exact ⟨lo.toNat, Nat.le_refl _, by have := HU.out; omega, by first | rfl | go_num, Lib.hid (HSX.out.alike (fun b _ => by
                      have : (decide (lo.toNat ≤ b) && decide (b < lo.toNat)) = false := by
                        rw [Bool.eq_false_iff]; simp only [ne_eq, Bool.and_eq_true, decide_eq_true_eq]; omega
                      rw [this, Bool.or_false]))⟩
                  case round =>
                    obtain ⟨n, hn1, hn2, rfl, HN⟩ := hrel
                    by_cases hn3 : n < U
                    · have g7 : ((n : Int) ≤ (hv.toNat : Int)) := by have := HU.out; omega
                      have g8 : ((n : Int) < 256) := by omega
                      have c1 := (tRow_cell HN.out.h1).2.2 n (by omega)
                      have f1 := frozen_of_block (j := n + 2) HN.out.h1
                      rw [Nat.add_comm n 2] at c1 f1
                      have HNN := Lib.hid (show lo.toNat ≤ n ∧ n < U from ⟨hn1, hn3⟩)
                      obtain ⟨bv, hbv⟩ : ∃ bv, bv = (g n || (decide (lo.toNat ≤ n) && decide (n < n))) := ⟨_, rfl⟩
                      rw [← hbv] at c1
                      clear hn3 hn1 hn2 hbv
                      go_wp2
                      exact ⟨⟨n + 1, by have := HNN.out; omega, by have := HNN.out; omega, by go_num, Lib.hid (HN.out.range HNN.out.1)⟩, by have := HNN.out; simp [intOf]; omega⟩
                    · have g7 : ¬ ((n : Int) ≤ (hv.toNat : Int)) := by have := HU.out; omega
                      have hne2 : n = U := by omega
                      have HN2 := HN
                      rw [hne2] at HN2
                      clear hn3 hne2 hn1 hn2
                      go_wp2
                      exact ⟨⟨jn, false, _, by have := HJN.out; omega, by first | rfl | go_num, rfl, HRM, HN2⟩, by have := HJN.out; simp [intOf]; omega⟩
end Go.Proofs.Ytpoekljclapbfaa.Gs
