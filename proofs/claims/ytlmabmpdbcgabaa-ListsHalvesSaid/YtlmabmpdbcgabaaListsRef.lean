/- The reference's Sort walked: a search by halves, a copy, a store: a row that rises. -/
import Derived.Test.YtlmabmpdbcgabaaListsFilter2
import Derived.Laws.CopyOwn
import Derived.Deep.RegionHeld3
import Derived.Deep.QuietTactic
import Derived.BigQuiet
import Derived.IntWalk
namespace Go.Proofs.Ytlmabmpdbcgabaa.G
open Go.RowKit Go.Sort Go.Proofs.Ytlmabmpdbcgabaa.P Go.Proofs.YtlmabmpdbcgabaaW.PrintWords

/-- By bytes. -/
abbrev ltB (a b : ByteArray) : Prop := a.toList < b.toList
def Rises (m : List ByteArray) : Prop := m.Pairwise ltB
/-- A text put into a row that rises, behind so many that lie ahead of it. -/
def putAt (m : List ByteArray) (n : Nat) (s : ByteArray) : List ByteArray := m.take n ++ s :: m.drop n
theorem ltB_irrefl (a : ByteArray) : ¬ ltB a a := List.lt_irrefl _
theorem ltB_trans {a b c : ByteArray} (h : ltB a b) (k : ltB b c) : ltB a c := List.lt_trans h k
theorem ltB_tri (a b : ByteArray) : ltB a b ∨ a = b ∨ ltB b a := by
  by_cases h1 : a.toList < b.toList
  · exact Or.inl h1
  · by_cases h2 : b.toList < a.toList
    · exact Or.inr (Or.inr h2)
    · refine Or.inr (Or.inl ?_)
      have := List.le_antisymm (List.not_lt.mp h2) (List.not_lt.mp h1)
      rw [Lib.toList_data, Lib.toList_data] at this
      exact ByteArray.ext (Array.toList_inj.mp this)

/-- What the search knows: all ahead of low lie ahead of s; none from high on does. -/
def Cut (m : List ByteArray) (s : ByteArray) (low high : Nat) : Prop :=
  low ≤ high ∧ high ≤ m.length ∧ (∀ j x, j < low → m[j]? = some x → ltB x s) ∧ ∀ j x, high ≤ j → m[j]? = some x → ¬ ltB x s
theorem Cut.up {m : List ByteArray} {s x : ByteArray} {low high k : Nat} (hr : Rises m) (h : Cut m s low high) (hk : low ≤ k) (hkh : k < high) (hx : m[k]? = some x) (hl : ltB x s) : Cut m s (k + 1) high := by
  refine ⟨hkh, h.2.1, fun j y hj hy => ?_, h.2.2.2⟩
  by_cases hjk : j = k
  · subst hjk; rw [hx] at hy; obtain rfl := Option.some.inj hy; exact hl
  · obtain ⟨hjl, hje⟩ := List.getElem?_eq_some_iff.mp hy
    obtain ⟨hkl, hke⟩ := List.getElem?_eq_some_iff.mp hx
    have := List.pairwise_iff_getElem.mp hr j k hjl hkl (by omega)
    rw [hje, hke] at this
    exact ltB_trans this hl
theorem Cut.down {m : List ByteArray} {s x : ByteArray} {low high k : Nat} (hr : Rises m) (h : Cut m s low high) (hk : low ≤ k) (hkh : k < high) (hx : m[k]? = some x) (hl : ¬ ltB x s) : Cut m s low k := by
  refine ⟨hk, Nat.le_trans (Nat.le_of_lt hkh) h.2.1, h.2.2.1, fun j y hj hy hlt => ?_⟩
  by_cases hjk : j = k
  · subst hjk; rw [hx] at hy; obtain rfl := Option.some.inj hy; exact hl hlt
  · obtain ⟨hjl, hje⟩ := List.getElem?_eq_some_iff.mp hy
    obtain ⟨hkl, hke⟩ := List.getElem?_eq_some_iff.mp hx
    have := List.pairwise_iff_getElem.mp hr k j hkl hjl (by omega)
    rw [hje, hke] at this
    exact hl (ltB_trans this hlt)
theorem put_rises {m : List ByteArray} {s : ByteArray} {n : Nat} (hr : Rises m) (h : Cut m s n n) (hn : ∀ x, m[n]? = some x → x ≠ s) : Rises (putAt m n s) := by
  have hm : m = m.take n ++ m.drop n := (List.take_append_drop n m).symm
  have hr2 : (m.take n ++ m.drop n).Pairwise ltB := by rw [← hm]; exact hr
  rw [List.pairwise_append] at hr2
  obtain ⟨h1, h2, h3⟩ := hr2
  have hpre : ∀ x ∈ m.take n, ltB x s := fun x hx => by
    obtain ⟨j, hj⟩ := List.getElem?_of_mem hx
    have hjn : j < n := by have := (List.getElem?_eq_some_iff.mp hj).1; simp at this; omega
    rw [List.getElem?_take_of_lt hjn] at hj
    exact h.2.2.1 j x hjn hj
  have hpost : ∀ x ∈ m.drop n, ltB s x := fun x hx => by
    obtain ⟨j, hj⟩ := List.getElem?_of_mem hx
    rw [List.getElem?_drop] at hj
    have hnot := h.2.2.2 (n + j) x (by omega) hj
    rcases ltB_tri s x with hh | hh | hh
    · exact hh
    · subst hh
      by_cases hj0 : j = 0
      · subst hj0; exact absurd rfl (hn s hj)
      · obtain ⟨hl1, he1⟩ := List.getElem?_eq_some_iff.mp hj
        have hnl : n < m.length := by omega
        have hlt := List.pairwise_iff_getElem.mp hr n (n + j) hnl hl1 (by omega)
        rw [he1] at hlt
        exact absurd hlt (h.2.2.2 n _ (Nat.le_refl _) (List.getElem?_eq_getElem hnl))
    · exact absurd hh hnot
  unfold putAt Rises
  rw [List.pairwise_append]
  refine ⟨h1, List.pairwise_cons.mpr ⟨hpost, h2⟩, fun a ha b hb => ?_⟩
  rcases List.mem_cons.mp hb with rfl | hb
  · exact hpre a ha
  · exact h3 a ha b hb
theorem mem_putAt (m : List ByteArray) (n : Nat) (s x : ByteArray) : x ∈ putAt m n s ↔ x = s ∨ x ∈ m := by
  unfold putAt
  conv => rhs; rw [← List.take_append_drop n m]
  simp only [List.mem_append, List.mem_cons]
  constructor
  · rintro (h | h | h)
    · exact Or.inr (Or.inl h)
    · exact Or.inl h
    · exact Or.inr (Or.inr h)
  · rintro (h | h | h)
    · exact Or.inr (Or.inl h)
    · exact Or.inl h
    · exact Or.inr (Or.inr h)
theorem len_putAt (m : List ByteArray) (n : Nat) (s : ByteArray) (h : n ≤ m.length) : (putAt m n s).length = m.length + 1 := by
  unfold putAt; simp; omega

theorem cell_of_block {w : World} {b j : Nat} {C : Array Value} {t : TypeId} (h : w.heap[b]? = some (.cells C t (0, 0))) : w.cell? ⟨b, j, none⟩ = C[j]? := by
  simp [World.cell?, h]
theorem heap_set {W : World} {g n : Nat} {C : Array Value} {t : TypeId} {fr : Nat × Nat} (v : Value) (h : W.heap[g]? = some (.cells C t fr)) : (W.setCell ⟨g, n, none⟩ v).heap[g]? = some (.cells (C.setIfInBounds n v) t fr) := by
  obtain ⟨hlt, hk⟩ := Array.getElem?_eq_some_iff.1 h
  show (W.heap.modify g _)[g]? = _
  rw [Array.getElem?_eq_getElem (by rw [Array.size_modify]; exact hlt), Array.getElem_modify_self, hk]
  rfl
theorem set_at (L : List Value) (n : Nat) (x : Value) (h : n < L.length) : (L.take (n + 1)).set n x = L.take n ++ [x] := by
  rw [List.take_succ_eq_append_getElem h, List.set_append_right _ _ (by simp; omega)]
  have : n - (L.take n).length = 0 := by simp; omega
  rw [this]; rfl
theorem splice_put (L M cs rest : List Value) (e x : Value) (n : Nat) (hn : n ≤ M.length) (hL : L = M ++ [e] ++ rest) (hc : cs = M.drop n) : ((splice L (n + 1) cs).set n x).take (M.length + 1) = M.take n ++ x :: M.drop n := by
  subst hL hc
  unfold splice
  have h1 : n < (M ++ [e] ++ rest).length := by simp; omega
  rw [List.set_append_left _ _ (by simp; omega), set_at _ _ _ h1]
  have h2 : (M ++ [e] ++ rest).take n = M.take n := by rw [List.append_assoc, List.take_append_of_le_length hn]
  rw [h2]
  have h3 : (M.take n ++ [x] ++ (M.drop n ++ List.drop (n + 1 + (M.drop n).length) (M ++ [e] ++ rest))) = (M.take n ++ x :: M.drop n) ++ List.drop (n + 1 + (M.drop n).length) (M ++ [e] ++ rest) := by simp
  rw [h3, List.take_left' (by simp; omega)]

theorem row_put {w3 : World} {base g cap n : Nat} {cur : Array Value} {m : List ByteArray} {s : ByteArray} {cs : List Value} (hg : w3.heap[g]? = some (.cells (splice cur.toList (n + 1) cs).toArray 9 (0, 0))) (hn : n ≤ m.length) (hcs : cs = (m.drop n).map Value.string)
    (h1 : m.length + 1 ≤ cap) (h2 : cap ≤ maxLen) (h3 : cur.size = cap * 1) (h4 : cur.toList.take ((m.length + 1) * 1) = m.map Value.string ++ [.string ⟨#[]⟩]) (hbase : base ≤ g) :
    Row (w3.setCell ⟨g, n, none⟩ (.string s)) base (.slice (some ⟨g, 0, none⟩) (m.length + 1) cap) (putAt m n s) := by
  have hl := len_putAt m n s hn
  have hcsl : cs.length = m.length - n := by rw [hcs]; simp
  have hb : (w3.setCell ⟨g, n, none⟩ (.string s)).heap[g]? = some (.cells ((splice cur.toList (n + 1) cs).set n (.string s)).toArray 9 (0, 0)) := by
    have := heap_set (n := n) (.string s) hg
    simpa using this
  have hL : cur.toList = m.map Value.string ++ [.string ⟨#[]⟩] ++ cur.toList.drop (m.length + 1) := by
    conv => lhs; rw [← List.take_append_drop (m.length + 1) cur.toList]
    rw [Nat.mul_one] at h4; rw [h4]
  refine ⟨by simp, .inr ⟨g, cap, _, by rw [hl], hbase, hb, by omega, h2, ?_, ?_⟩⟩
  · have := length_splice cur.toList (n + 1) cs (by rw [hcsl]; simp; omega)
    simp [this]; omega
  · have := splice_put cur.toList (m.map Value.string) cs _ _ (.string s) n (by simpa using hn) hL (by rw [hcs, List.map_drop])
    rw [List.length_map] at this
    rw [hl, Nat.mul_one]
    show (((splice cur.toList (n + 1) cs).set n (.string s)).toArray.toList).take (m.length + 1) = _
    rw [List.toList_toArray, this]
    simp [putAt]

/-- The row so far: it rises, and holds just what was seen. -/
def Sorts (m : List ByteArray) (l : List ByteArray) : Prop := Rises m ∧ ∀ x, x ∈ m ↔ x ∈ l

theorem own_some {w : World} {base n : Nat} {v : Value} {xs : List Value} (h : w.ownsRow base 9 1 v (n + 1) xs) : ∃ g cap cur, v = .slice (some ⟨g, 0, none⟩) (n + 1) cap ∧ base ≤ g ∧ w.heap[g]? = some (.cells cur 9 (0, 0)) ∧ n + 1 ≤ cap ∧ cap ≤ maxLen ∧ cur.size = cap * 1 ∧ cur.toList.take ((n + 1) * 1) = xs := by
  rcases h.2 with ⟨_, h0⟩ | ⟨g, cap, cur, rfl, r⟩
  · omega
  · exact ⟨g, cap, cur, rfl, r⟩
theorem add_any (g n k : Nat) : (⟨g, n, none⟩ : Addr).add k = ⟨g, n + k, none⟩ := by
  unfold Addr.add
  split
  · rename_i h0; rw [h0]; rfl
  · rfl
theorem src_cells {w : World} {g lo : Nat} {cur : Array Value} {m : List ByteArray} (hg : w.heap[g]? = some (.cells cur 9 (0, 0))) (ht : cur.toList.take ((m.length + 1) * 1) = m.map Value.string ++ [.string ⟨#[]⟩]) :
    ∀ (j : Nat) (v : Value), ((m.drop lo).map Value.string)[j]? = some v → w.drew.cell? ((⟨g, lo, none⟩ : Addr).add j) = some v := by
  intro j v hv
  rw [add_any]
  have hj : lo + j < m.length := by have := (List.getElem?_eq_some_iff.mp hv).1; simp at this; omega
  show w.cell? ⟨g, lo + j, none⟩ = some v
  rw [cell_of_block hg]
  have h1 : (cur.toList.take ((m.length + 1) * 1))[lo + j]? = (m.map Value.string ++ [.string ⟨#[]⟩])[lo + j]? := by rw [ht]
  rw [List.getElem?_take_of_lt (by omega), List.getElem?_append_left (by simp; omega), Array.getElem?_toList] at h1
  rw [h1, ← hv, List.map_drop, List.getElem?_drop]
theorem sorts_step {l m : List ByteArray} {k : Nat} {s : ByteArray} (hs : l[k]? = some s) (h : Sorts m (l.take k)) : (s ∈ m → Sorts m (l.take (k + 1))) ∧ ∀ n, Cut m s n n → (∀ x, m[n]? = some x → x ≠ s) → Sorts (putAt m n s) (l.take (k + 1)) := by
  obtain ⟨hk, he⟩ := List.getElem?_eq_some_iff.mp hs
  rw [List.take_succ_eq_append_getElem hk, he]
  refine ⟨fun hm => ⟨h.1, fun x => ?_⟩, fun n hc hn => ⟨put_rises h.1 hc hn, fun x => ?_⟩⟩
  · rw [h.2 x, List.mem_append]
    constructor
    · exact Or.inl
    · rintro (hh | hh)
      · exact hh
      · obtain rfl : x = s := by simpa using hh
        exact (h.2 x).mp hm
  · rw [mem_putAt, List.mem_append, ← h.2 x, List.mem_singleton]
    exact Or.comm

set_option maxHeartbeats 8000000 in
set_option maxRecDepth 100000 in
theorem rsort_calls (A : Option Addr) (c : Nat) (l : List ByteArray) (w : World) (h : Strs w A l) (hl : l.length ≤ 1000000) :
    Calls Try.prog 11 #[.slice A l.length c] w fun e w' => ∃ m, Sorts m l ∧ Gives w w' e m := by
  obtain ⟨i0, hi, hz0, hz1, hz2⟩ := info_parts info_str
  have HL := Lib.hid h
  clear h
  go_enter Try.func11, Try.ntmps11
  go_wp2
  go_loopw [3, 4, 5, 6, 7] (fun v i _ _ _ wr => ∃ (k : Nat) (m : List ByteArray), k ≤ l.length ∧ i = .int .i64 k ∧ m.length ≤ k ∧ Hid (Sorts m (l.take k)) ∧ Hid (Row wr w.heap.size v m) ∧ Hid (Below w.heap.size w wr)) (fun _ i _ _ _ _ => l.length - (intOf i).toNat)
  case atStart => exact ⟨0, [], Nat.zero_le _, rfl, Nat.le_refl _, Lib.hid ⟨List.Pairwise.nil, fun x => by simp⟩, Lib.hid (Row.nil _ _), Lib.hid (Below.refl _ _)⟩
  case round =>
    obtain ⟨k, m, hk, rfl, hmk, HS, HR, HB⟩ := hrel
    by_cases hlt : k < l.length
    · obtain ⟨s, hs⟩ : ∃ s, l[k]? = some s := ⟨_, List.getElem?_eq_getElem hlt⟩
      obtain ⟨bL, off, rfl, hzL, hc⟩ := HL.out.cells (by omega)
      have e0 := (HB.out.cell (p := ⟨bL, off + k, none⟩) (by exact hzL)).trans (hc k s hs)
      obtain ⟨Am, cm, rfl, hcm, hSm⟩ := HR.out.strs
      have HE := Lib.hid hs
      have HC0 := Lib.hid (hc k s hs)
      clear hs hc
      go_wp2
      obtain ⟨wo, hwo⟩ : ∃ wo : World, wo = wr := ⟨_, rfl⟩
      rw [← hwo]
      have HWO := Lib.hid hwo
      clear hwo
      go_loopw [5, 6, 7] (fun v5 v6 _ wi => ∃ (lo hi q : Nat), v5 = .int .i64 lo ∧ v6 = .int .i64 hi ∧ Hid (Cut m s lo hi) ∧ lo ≤ hi ∧ hi ≤ m.length ∧ wi = wo.drewN q) (fun a b _ _ => (intOf b).toNat - (intOf a).toNat)
      case atStart => exact ⟨0, m.length, 0, rfl, rfl, Lib.hid ⟨Nat.zero_le _, Nat.le_refl _, fun j x hj => absurd hj (Nat.not_lt_zero _), fun j x hj hx => by have := (List.getElem?_eq_some_iff.mp hx).1; omega⟩, Nat.zero_le _, Nat.le_refl _, rfl⟩
      case round =>
        obtain ⟨lo, hi2, q, rfl, rfl, HC, hlh, hhm, rfl⟩ := hrel
        obtain ⟨wz, hwz⟩ : ∃ wz : World, wz = wo.drewN q := ⟨_, rfl⟩
        rw [← hwz]
        have hwr : wz = wr.drewN q := by rw [hwz, HWO.out]
        have HWZ := Lib.hid hwz
        have hcz : ∀ p, wz.cell? p = wr.cell? p := fun p => by rw [hwr]; rfl
        have HCZ := Lib.hid hcz
        clear hwz hwr hcz
        by_cases hll : lo < hi2
        · obtain ⟨kk, hkk⟩ : ∃ kk : Nat, ((lo : Int) + (hi2 : Int)) / 2 = (kk : Int) := ⟨(lo + hi2) / 2, by omega⟩
          have hk1 : lo ≤ kk := by omega
          have hk2 : kk < hi2 := by omega
          have hk3 : kk < m.length := by omega
          obtain ⟨x, hx⟩ : ∃ x, m[kk]? = some x := ⟨_, List.getElem?_eq_getElem hk3⟩
          obtain ⟨bm, om, rfl, hbm, hcm2⟩ := hSm.cells (by omega)
          have m0 : wz.cell? ⟨bm, om + kk, none⟩ = some (.string x) := (HCZ.out _).trans (hcm2 kk x hx)
          have l0 : wz.cell? ⟨bL, off + k, none⟩ = some (.string s) := (HCZ.out _).trans e0
          have ii0 : (0 : Int) ≤ (kk : Int) := Int.natCast_nonneg _
          have ii1 : (kk : Int) < (m.length : Int) := by omega
          have j0 : (0 : Int) ≤ (k : Int) := Int.natCast_nonneg _
          have j1 : (k : Int) < (l.length : Int) := by omega
          by_cases hx2 : ltB x s
          · have HN := Lib.hid (HC.out.up HS.out.1 hk1 hk2 hx hx2)
            have hd : Op.bytesLess x.toList s.toList = true := by rw [bytesLess_eq]; exact decide_eq_true hx2
            clear hx hcm2
            go_wp2
            go_quiet (fail)
            go_wp2
            go_roundw
            case rel => exact ⟨kk + 1, hi2, q + nq, by go_num, rfl, HN, by omega, by omega, by rw [HWZ.out, World.drewN_drewN]⟩
            case measure => simp [intOf]; omega
          · have HN := Lib.hid (HC.out.down HS.out.1 hk1 hk2 hx hx2)
            have hd : Op.bytesLess x.toList s.toList = false := by rw [bytesLess_eq]; exact decide_eq_false hx2
            clear hx hcm2
            go_wp2
            go_quiet (fail)
            go_wp2
            go_roundw
            case rel => exact ⟨lo, kk, q + nq, rfl, by rw [hkk], HN, by omega, by omega, by rw [HWZ.out, World.drewN_drewN]⟩
            case measure => simp [intOf]; omega
        · obtain rfl : lo = hi2 := by omega
          have l0 : wz.cell? ⟨bL, off + k, none⟩ = some (.string s) := (HCZ.out _).trans e0
          have j0 : (0 : Int) ≤ (k : Int) := Int.natCast_nonneg _
          have j1 : (k : Int) < (l.length : Int) := by omega
          have HRZ : Hid (Row wz w.heap.size (.slice Am m.length cm) m) := Lib.hid (by rw [HWZ.out, HWO.out]; exact own_move HR.out (fun _ _ => rfl))
          have HBZ : Hid (Below w.heap.size w wz) := Lib.hid (by rw [HWZ.out, HWO.out]; exact HB.out.trans ⟨rfl, rfl, rfl, Nat.le_refl _, fun _ _ => rfl⟩)
          have HST := Lib.hid (sorts_step (l := l) (m := m) HE.out HS.out)
          clear HWZ HCZ HWO HB HR e0
          have hSz : Strs wz Am m := by obtain ⟨A', c', he, _, h'⟩ := HRZ.out.strs; injection he with h1 _ _; rw [h1]; exact h'
          by_cases hnl : lo < m.length
          · obtain ⟨x, hx⟩ : ∃ x, m[lo]? = some x := ⟨_, List.getElem?_eq_getElem hnl⟩
            obtain ⟨bm, om, rfl, hbm, hcm2⟩ := hSz.cells (by omega)
            have m0 := hcm2 lo x hx
            have ii0 : (0 : Int) ≤ (lo : Int) := Int.natCast_nonneg _
            have ii1 : (lo : Int) < (m.length : Int) := by omega
            have hd1 : decide ((lo : Int) < (m.length : Int)) = true := decide_eq_true ii1
            have hd2 : decide (lo < m.length) = true := decide_eq_true hnl
            by_cases hxs : x = s
            · have hd3 : (x.toList == s.toList) = true := by rw [hxs]; simp
              have HM := Lib.hid (HST.out.1 (hxs ▸ List.mem_of_getElem? hx))
              clear hx hcm2
              go_wp2
              go_quiet (fail)
              go_wp2
              go_roundw
              case rel => exact ⟨k + 1, m, by omega, by go_num, by omega, HM, Lib.hid (own_move HRZ.out (fun _ _ => rfl)), Lib.hid (HBZ.out.trans ⟨rfl, rfl, rfl, Nat.le_refl _, fun _ _ => rfl⟩)⟩
              case measure => simp [intOf]; omega
            · have hd3 : (x.toList == s.toList) = false := by
                rw [Bool.eq_false_iff]; intro hh
                have := eq_of_beq hh
                rw [Lib.toList_data, Lib.toList_data] at this
                exact hxs (ByteArray.ext (Array.toList_inj.mp this))
              have HNE : Hid (∀ x', m[lo]? = some x' → x' ≠ s) := Lib.hid (fun x' h' => by rw [hx] at h'; obtain rfl := Option.some.inj h'; exact hxs)
              have hnm : lo ≤ m.length := Nat.le_of_lt hnl
              clear hx hcm2
              go_wp2
              go_quiet (fail)
              have HRQ : Hid (Row (wz.drewN nq) w.heap.size (.slice (some ⟨bm, om, none⟩) m.length cm) m) := Lib.hid (own_move HRZ.out (fun _ _ => rfl))
              have HBQ : Hid (Below w.heap.size w (wz.drewN nq)) := Lib.hid (HBZ.out.trans ⟨rfl, rfl, rfl, Nat.le_refl _, fun _ _ => rfl⟩)
              clear HRZ HBZ l0 hSz
              generalize wz.drewN nq = wy at HRQ HBQ ⊢
              generalize (some ⟨bm, om, none⟩ : Option Addr) = AM at HRQ ⊢
              have hsy := HBQ.out.size
              go_wp2_with (at_builtin; refine wpList_append_own _ rfl _ _ 22 rfl w.heap.size 9 i0 _ 1 16 Try.underlying22 hi hz0 hz1 hz2 rfl (by decide) _ _ _ rfl (HRQ.out.alloc _) ⟨wy.heap.size, 0, none⟩ 1 1 [.string ⟨#[]⟩] rfl rfl (cell_one_new _ _ _) (by intro u hu; simp at hu; subst hu; rfl) (by unfold maxLen; omega) (by omega) (by simp; omega) ?_; intro v2 w4 hown2 hgr2 _; obtain ⟨g, cap, cur, rfl, hgb, hgz, hg1, hg2, hg3, hg4⟩ := own_some hown2; have B4 := Lib.hid ((HBQ.out.alloc HBQ.out.size _).grown hgr2 (by simp; omega) (fun j hj => (HRQ.out.lt j hj).1)); have HGZ := Lib.hid hgz; have HG3 := Lib.hid hg3; have HG4 := Lib.hid hg4; have HG2 := Lib.hid hg2; clear hown2 hgr2 hgz hg3 hg4 hg2)
              have HSRC := Lib.hid (src_cells (lo := lo) (m := m) HGZ.out HG4.out)
              have hfit : lo + 1 + ((m.drop lo).map Value.string).length ≤ cur.toList.length := by have := HG3.out; simp; omega
              have HFIT := Lib.hid hfit
              have b1 : IntKind.i64.wrap ((lo : Int) + 1) = (lo : Int) + 1 := IntWalk.i64_in _ (by omega)
              have b2 : (0 : Int) ≤ (lo : Int) + 1 := by omega
              have b3 : (lo : Int) + 1 ≤ ((m.length + 1 : Nat) : Int) := by omega
              have b4 : (lo : Int) + 1 ≤ (m.length : Int) + 1 := by omega
              have b5 : (0 : Int) ≤ (lo : Int) := by omega
              have b6 : (lo : Int) ≤ ((m.length + 1 : Nat) : Int) := by omega
              have b7 : (lo : Int) ≤ (m.length : Int) + 1 := by omega
              have b8 : ((lo : Int) + 1).toNat = lo + 1 := by omega
              clear hfit
              go_region_held3 (fun _ => True) (exact True.intro) ((refine step_copy_splice (by rfl) (.tmp 56) (.tmp 59) 22 22 (by rfl) 9 Try.underlying22 (by kernel_rfl) _ _ _ _ _ _ (by rfl) (by rfl) g (lo + 1) cur.toList 9 HGZ.out ((m.drop lo).map Value.string) (by simp only [List.length_map, List.length_drop]; show _ = min _ _; omega) (by intro hp; have hlo : lo < m.length := (by simp at hp; omega); exact ⟨if_neg (by omega), _, if_neg (by omega), HSRC.out⟩) HFIT.out (by intro u hu; obtain ⟨z, _, rfl⟩ := List.mem_map.mp hu; rfl) w.heap.size w (Below.drew B4.out) hgb ?_; intro w5 hw5 hb5))
              have hcl : lo < (splice cur.toList (lo + 1) ((m.drop lo).map Value.string)).toArray.size := by have h1 := length_splice cur.toList (lo + 1) ((m.drop lo).map Value.string) HFIT.out; have h2 := HG3.out; rw [List.size_toArray, h1, Array.length_toList]; omega
              obtain ⟨y, hy⟩ : ∃ y, (splice cur.toList (lo + 1) ((m.drop lo).map Value.string)).toArray[lo]? = some y := ⟨_, Array.getElem?_eq_getElem hcl⟩
              have c5 := (cell_of_block (j := lo) hw5.out).trans hy
              have f5 : w5.frozen? ⟨g, lo, none⟩ = false := by have := hw5.out; simp [World.frozen?, this]
              have l5 := (hb5.cell (p := ⟨bL, off + k, none⟩) (by exact hzL)).trans HC0.out
              have HROW5 := Lib.hid (row_put (s := s) hw5.out hnm rfl hg1 HG2.out HG3.out HG4.out hgb)
              have HB5 := Lib.hid (hb5.setCell (p := ⟨g, lo, none⟩) hgb (.string s))
              have HLEN := Lib.hid (len_putAt m lo s hnm)
              clear hcl hy hb5 b1 b2 b3 b4 b6 b7 b8
              go_wp2
              go_roundw
              case rel => exact ⟨k + 1, putAt m lo s, by omega, by go_num, by have := HLEN.out; omega, Lib.hid (HST.out.2 lo HC.out HNE.out), Lib.hid (by unfold Row; rw [HLEN.out]; have := HROW5.out; unfold Row at this; rw [HLEN.out] at this; exact this), HB5⟩
              case measure => simp [intOf]; omega
          · have hd1 : decide ((lo : Int) < (m.length : Int)) = false := decide_eq_false (by omega)
            have hd2 : decide (lo < m.length) = false := decide_eq_false hnl
            have HNE : Hid (∀ x', m[lo]? = some x' → x' ≠ s) := Lib.hid (fun x' h' => by have := (List.getElem?_eq_some_iff.mp h').1; omega)
            have hnm : lo ≤ m.length := hhm
            go_wp2
            go_quiet (fail)
            have HRQ : Hid (Row (wz.drewN nq) w.heap.size (.slice Am m.length cm) m) := Lib.hid (own_move HRZ.out (fun _ _ => rfl))
            have HBQ : Hid (Below w.heap.size w (wz.drewN nq)) := Lib.hid (HBZ.out.trans ⟨rfl, rfl, rfl, Nat.le_refl _, fun _ _ => rfl⟩)
            clear HRZ HBZ l0 hSz
            generalize wz.drewN nq = wy at HRQ HBQ ⊢
            have hsy := HBQ.out.size
            go_wp2_with (at_builtin; refine wpList_append_own _ rfl _ _ 22 rfl w.heap.size 9 i0 _ 1 16 Try.underlying22 hi hz0 hz1 hz2 rfl (by decide) _ _ _ rfl (HRQ.out.alloc _) ⟨wy.heap.size, 0, none⟩ 1 1 [.string ⟨#[]⟩] rfl rfl (cell_one_new _ _ _) (by intro u hu; simp at hu; subst hu; rfl) (by unfold maxLen; omega) (by omega) (by simp; omega) ?_; intro v2 w4 hown2 hgr2 _; obtain ⟨g, cap, cur, rfl, hgb, hgz, hg1, hg2, hg3, hg4⟩ := own_some hown2; have B4 := Lib.hid ((HBQ.out.alloc HBQ.out.size _).grown hgr2 (by simp; omega) (fun j hj => (HRQ.out.lt j hj).1)); have HGZ := Lib.hid hgz; have HG3 := Lib.hid hg3; have HG4 := Lib.hid hg4; have HG2 := Lib.hid hg2; clear hown2 hgr2 hgz hg3 hg4 hg2)
            have HSRC := Lib.hid (src_cells (lo := lo) (m := m) HGZ.out HG4.out)
            have hfit : lo + 1 + ((m.drop lo).map Value.string).length ≤ cur.toList.length := by have := HG3.out; simp; omega
            have HFIT := Lib.hid hfit
            have b1 : IntKind.i64.wrap ((lo : Int) + 1) = (lo : Int) + 1 := IntWalk.i64_in _ (by omega)
            have b2 : (0 : Int) ≤ (lo : Int) + 1 := by omega
            have b3 : (lo : Int) + 1 ≤ ((m.length + 1 : Nat) : Int) := by omega
            have b4 : (lo : Int) + 1 ≤ (m.length : Int) + 1 := by omega
            have b5 : (0 : Int) ≤ (lo : Int) := by omega
            have b6 : (lo : Int) ≤ ((m.length + 1 : Nat) : Int) := by omega
            have b7 : (lo : Int) ≤ (m.length : Int) + 1 := by omega
            have b8 : ((lo : Int) + 1).toNat = lo + 1 := by omega
            clear hfit
            go_region_held3 (fun _ => True) (exact True.intro) ((refine step_copy_splice (by rfl) (.tmp 56) (.tmp 59) 22 22 (by rfl) 9 Try.underlying22 (by kernel_rfl) _ _ _ _ _ _ (by rfl) (by rfl) g (lo + 1) cur.toList 9 HGZ.out ((m.drop lo).map Value.string) (by simp only [List.length_map, List.length_drop]; show _ = min _ _; omega) (by intro hp; have hlo : lo < m.length := (by simp at hp; omega); exact ⟨if_neg (by omega), _, if_neg (by omega), HSRC.out⟩) HFIT.out (by intro u hu; obtain ⟨z, _, rfl⟩ := List.mem_map.mp hu; rfl) w.heap.size w (Below.drew B4.out) hgb ?_; intro w5 hw5 hb5))
            have hcl : lo < (splice cur.toList (lo + 1) ((m.drop lo).map Value.string)).toArray.size := by have h1 := length_splice cur.toList (lo + 1) ((m.drop lo).map Value.string) HFIT.out; have h2 := HG3.out; rw [List.size_toArray, h1, Array.length_toList]; omega
            obtain ⟨y, hy⟩ : ∃ y, (splice cur.toList (lo + 1) ((m.drop lo).map Value.string)).toArray[lo]? = some y := ⟨_, Array.getElem?_eq_getElem hcl⟩
            have c5 := (cell_of_block (j := lo) hw5.out).trans hy
            have f5 : w5.frozen? ⟨g, lo, none⟩ = false := by have := hw5.out; simp [World.frozen?, this]
            have l5 := (hb5.cell (p := ⟨bL, off + k, none⟩) (by exact hzL)).trans HC0.out
            have HROW5 := Lib.hid (row_put (s := s) hw5.out hnm rfl hg1 HG2.out HG3.out HG4.out hgb)
            have HB5 := Lib.hid (hb5.setCell (p := ⟨g, lo, none⟩) hgb (.string s))
            have HLEN := Lib.hid (len_putAt m lo s hnm)
            clear hcl hy hb5 b1 b2 b3 b4 b6 b7 b8
            go_wp2
            go_roundw
            case rel => exact ⟨k + 1, putAt m lo s, by omega, by go_num, by have := HLEN.out; omega, Lib.hid (HST.out.2 lo HC.out HNE.out), Lib.hid (by unfold Row; rw [HLEN.out]; have := HROW5.out; unfold Row at this; rw [HLEN.out] at this; exact this), HB5⟩
            case measure => simp [intOf]; omega
    · have hs := HS.out
      rw [List.take_of_length_le (by omega)] at hs
      have HS2 := Lib.hid hs
      clear hs
      go_wp2
      go_ret
      exact ⟨m, HS2.out, Gives.of_row HR.out HB.out⟩
end Go.Proofs.Ytlmabmpdbcgabaa.G
