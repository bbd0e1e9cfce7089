/- lists.Filter walked whole. -/
import Derived.Test.YtlmabmpdbcgabaaListsFilter
import Derived.Deep.AppendLies
import Derived.Deep.RegionLaw
namespace Go.Proofs.Ytlmabmpdbcgabaa.G
open Go.RowKit Go.Sort Go.Proofs.Ytlmabmpdbcgabaa.P Go.Proofs.YtlmabmpdbcgabaaW.PrintWords Go.Proofs.Ytlmabmpdbcgabaa.Pure

def patsV (ps : List Pat) : List Value := ps.flatMap patV
theorem patsV_snoc (ps : List Pat) (p : Pat) : patsV (ps ++ [p]) = patsV ps ++ patV p := by simp [patsV]
theorem patsV_at : ∀ (ps : List Pat) (j : Nat) (p : Pat), ps[j]? = some p → ∀ i, i < 3 → (patsV ps)[j * 3 + i]? = (patV p)[i]?
  | [], j, e, h, _, _ => by simp at h
  | q :: E, 0, e, h, i, hi => by
    have : q = e := by simpa using h
    subst this
    show (patV q ++ patsV E)[0 * 3 + i]? = _
    rw [List.getElem?_append_left (by simp [patV]; omega)]
    congr 1
    omega
  | q :: E, j + 1, e, h, i, hi => by
    have := patsV_at E j e (by simpa using h) i hi
    show (patV q ++ patsV E)[(j + 1) * 3 + i]? = _
    rw [List.getElem?_append_right (by simp [patV]; omega), ← this]
    congr 1
    simp [patV]
    omega
theorem patV_one (p : Pat) : ∀ u ∈ patV p, u.oneCell' = true := by
  intro u hu
  simp only [patV, List.mem_cons, List.not_mem_nil, or_false] at hu
  rcases hu with rfl | rfl | rfl <;> rfl
theorem info_pat : (Try.prog.info? 42).map (fun i => (i.zero, i.size, i.bytes)) = some (some (.agg #[.bool false, .string ⟨#[]⟩, .string ⟨#[]⟩]), 3, 40) := by kernel_rfl
theorem add_plain (g k : Nat) : (⟨g, 0, none⟩ : Addr).add k = ⟨g, k, none⟩ := by
  unfold Addr.add
  split
  · rename_i h0; rw [h0]
  · simp
def PRow (w : World) (base : Nat) (v : Value) (ps : List Pat) : Prop := w.ownsRow base 42 3 v ps.length (patsV ps)
theorem PRow.pats {w : World} {base : Nat} {v : Value} {ps : List Pat} (h : PRow w base v ps) (hl : ps.length ≤ 1000000) : ∃ A c, v = .slice A ps.length c ∧ Pats w A ps := by
  rcases h.2 with ⟨rfl, h0⟩ | ⟨g, cap, cur, rfl, hb, hg, h1, h2, h3, h4⟩
  · obtain rfl := List.length_eq_zero_iff.mp h0
    exact ⟨none, 0, rfl, by simp, fun h => absurd h (by simp)⟩
  · refine ⟨_, cap, rfl, hl, fun _ => ⟨g, 0, rfl, (h.lt g rfl).2, fun j p hj => ?_⟩⟩
    have hc : ∀ i, i < 3 → ∀ u, (patV p)[i]? = some u → w.cell? ⟨g, j * 3 + i, none⟩ = some u := fun i hi u hu => by
      rw [← add_plain]; exact h.cells (g := g) rfl (j * 3 + i) u ((patsV_at ps j p hj i hi).trans hu)
    simp only [Nat.zero_add]
    exact ⟨hc 0 (by omega) _ rfl, hc 1 (by omega) _ rfl, hc 2 (by omega) _ rfl⟩
theorem of_calls (s : ByteArray) (w : World) (hs : s.size ≤ 140737488355327) :
    Calls Try.prog 26 #[.string s] w fun e w' => e = .returned (.agg #[.bool (patOf s).1, .string (patOf s).2.1, .string (patOf s).2.2]) ∧ Below w.heap.size w w' :=
  pattern_Of.calls s _ _ _ w (of_patOf s hs)
def pats (l : List ByteArray) : List Pat := l.map patOf
theorem pats_step {l : List ByteArray} {k : Nat} {s : ByteArray} (hs : l[k]? = some s) : pats (l.take (k + 1)) = pats (l.take k) ++ [patOf s] := by
  obtain ⟨hk, h⟩ := List.getElem?_eq_some_iff.mp hs
  rw [List.take_succ_eq_append_getElem hk, h]; simp [pats]

theorem far_after {w1 w2 : World} {o : Obj} {row : Option Nat} {b : Nat} (hg : (w1.alloc o).grownBy w2 row) (hb : b < w1.heap.size) (hn : row ≠ some b) : w2.heap[b]? = w1.heap[b]? :=
  (hg.block b (by simp; omega) (fun e => hn e.symm)).trans (Below.heap_alloc w1 o b hb)

set_option maxHeartbeats 8000000 in
set_option maxRecDepth 100000 in
theorem filter_calls (AP : Option Addr) (cP : Nat) (q : List ByteArray) (AL : Option Addr) (cL : Nat) (l : List ByteArray) (out : Bool) (w : World) (hQ : Strs w AP q) (hq : q.length ≤ 1000000) (hqz : ∀ s ∈ q, s.size ≤ 140737488355327)
    (hL : Strs w AL l) (hl : l.length ≤ 1000000) (hz : ∀ s ∈ l, s.size ≤ 4611686018427387904) :
    Calls Try.prog 12 #[.slice AP q.length cP, .slice AL l.length cL, .bool out] w fun e w' => Gives w w' e (keepB (pats q) out l) := by
  obtain ⟨i0, hi, hz0, hz1, hz2⟩ := info_parts info_pat
  have hmf : ∀ (fn : Fn) (first cap : Array Value) (w : World), (Instr.makeFunc fn first cap).run Try.prog w = .ok (.func fn first cap) w := fun _ _ _ _ => rfl
  have HQ := Lib.hid hQ
  have HL := Lib.hid hL
  have HZ := Lib.hid hz
  have HQZ := Lib.hid hqz
  clear hQ hL hz hqz
  go_enter Try.func12, Try.ntmps12
  go_wp2
  go_loopw [12] (fun i wr => ∃ (k : Nat) (v : Value), k ≤ q.length ∧ i = .int .i64 k ∧ wr.cell? ⟨w.heap.size, 0, none⟩ = some (.bool out) ∧ wr.cell? ⟨w.heap.size + 1, 0, none⟩ = some v ∧ wr.frozen? ⟨w.heap.size + 1, 0, none⟩ = false ∧ Hid (PRow wr (w.heap.size + 2) v (pats (q.take k))) ∧ Hid (Below w.heap.size w wr) ∧ w.heap.size + 2 ≤ wr.heap.size) (fun i _ => q.length - (intOf i).toNat)
  case atStart =>
    refine ⟨0, _, Nat.zero_le _, rfl, ?_, ?_, ?_, Lib.hid (World.ownsRow_nil _ _ _ _), Lib.hid (((Below.refl _ _).alloc (Nat.le_refl _) _).alloc (by simp) _), by simp⟩
    · simp [go_sem]
    · simp [go_sem]
    · simp [go_sem]
  case round =>
    obtain ⟨k, v, hk, rfl, c1, c2, f2, HR, HB, hsz⟩ := hrel
    by_cases hlt : k < q.length
    · obtain ⟨s, hs⟩ : ∃ s, q[k]? = some s := ⟨_, List.getElem?_eq_getElem hlt⟩
      obtain ⟨bL, off, rfl, hzL, hc⟩ := HQ.out.cells (by omega)
      have e0 := (HB.out.cell (p := ⟨bL, off + k, none⟩) (by exact hzL)).trans (hc k s hs)
      have hsq := HQZ.out s (List.mem_of_getElem? hs)
      have HST := Lib.hid (pats_step hs)
      have HK := Lib.hid (show (pats (q.take k)).length ≤ 1000000 by simp [pats]; omega)
      clear hs hc
      go_wp2
      go_region_law (first
        | (go_simp; go_at_call 26; refine (of_calls s _ hsq).mono ?_; rintro e w1 ⟨rfl, hB⟩; have hB' : Below wr.heap.size wr w1 := (Below.drew (Below.refl _ wr)).trans hB; have d1 := (hB'.cell (p := ⟨w.heap.size, 0, none⟩) (by simp; omega)).trans c1; have d2 := (hB'.cell (p := ⟨w.heap.size + 1, 0, none⟩) (by simp; omega)).trans c2; have g2 := (hB'.frozen (p := ⟨w.heap.size + 1, 0, none⟩) (by simp; omega)).trans f2; have R1 := Lib.hid (own_move HR.out (fun j hj => hB'.block j (HR.out.lt j hj).2)); have B1 := Lib.hid (HB.out.trans (hB'.mono HB.out.size)); have S1 := hB'.size; have S3 : w.heap.size + 1 < w1.heap.size := (by omega); have S4 : w.heap.size < w1.heap.size := (by omega); clear hB hB')
        | (refine step_append_lies _ (by rfl) _ _ _ (by rfl) (w.heap.size + 2) 42 i0 _ 3 40 Try.underlying40 hi hz0 hz1 hz2 rfl (by omega) v _ _ (by rfl) (R1.out.alloc _) ⟨w1.heap.size, 0, none⟩ 1 1 (patV (patOf s)) (by rfl) (by rfl) (World.news_of_block (cs := #[.bool (patOf s).1, .string (patOf s).2.1, .string (patOf s).2.2]) (t := 42) (fr := (0, 0)) (heap_alloc_new w1 _)) (patV_one _) (by omega) (by have := HK.out; unfold maxLen; omega) (by have := HK.out; omega) (by simp; omega) (w1.heap.size + 1) (by simp) ?_; intro gg cap w2 hown1 hgrow hat hlt2; have hf2 := far_after hgrow (show w.heap.size + 1 < w1.heap.size by omega) (fun h => by have := (R1.out.lt _ h).1; omega); have hf1 := far_after hgrow (show w.heap.size < w1.heap.size by omega) (fun h => by have := (R1.out.lt _ h).1; omega); have d3 := (World.cell?_of_block (a := ⟨w.heap.size + 1, 0, none⟩) hf2).trans d2; have g3 := (World.frozen?_of_block (a := ⟨w.heap.size + 1, 0, none⟩) hf2).trans g2; have d4 := (World.cell?_of_block (a := ⟨w.heap.size, 0, none⟩) hf1).trans d1; have O2 := Lib.hid hown1; have B2 := Lib.hid ((B1.out.alloc B1.out.size _).grown hgrow (by have := B1.out.size; simp; omega) (fun j hj => Nat.le_trans (by omega) (R1.out.lt j hj).1)); have S2 := hgrow.size; clear hown1 hgrow hf1 hf2))
      all_goals
        go_wp2
        go_roundw
        case rel =>
          refine ⟨k + 1, _, by omega, by go_num, ?_, World.cell?_setCell_same w2 ⟨w.heap.size + 1, 0, none⟩ _ d3, ?_, Lib.hid ?_, Lib.hid ?_, ?_⟩
          · rw [World.cell?_setCell_other w2 ⟨w.heap.size + 1, 0, none⟩ _ _ (by simp)]; exact d4
          · rw [World.frozen?_setCell]; exact g3
          · rw [HST.out]
            unfold PRow
            rw [patsV_snoc, List.length_append]
            refine own_move O2.out (fun j hj => Below.heap_setCell _ _ _ _ (fun e => ?_))
            have h1 := (O2.out.lt j hj).1
            have h2 : j = w.heap.size + 1 := e
            omega
          · exact B2.out.setCell (by simp) _
          · simp; simp at S2; omega
        case measure => simp [intOf]; omega
    · obtain rfl : k = q.length := by omega
      have hr := HR.out
      rw [List.take_length] at hr
      have hlq : (pats q).length ≤ 1000000 := by simp [pats]; omega
      obtain ⟨A, c, rfl, hP⟩ := hr.pats hlq
      have HP := Lib.hid hP
      have HGP : Hid (∀ p ∈ pats q, GoodP p) := Lib.hid (fun p hp => by
        obtain ⟨s, hs, rfl⟩ := List.mem_map.mp hp
        exact good_patOf s (HQZ.out s hs))
      clear hr hP
      go_wp2_with (first
        | (go_at_call 27; refine (keep_calls (pats q) A c out (w.heap.size + 1) w.heap.size AL cL l wr HP.out HGP.out c2 c1 (HL.out.below HB.out) hl HZ.out).mono ?_; rintro e w4 ⟨A4, c4, rfl, h4, h5, h6⟩; have G4 := Lib.hid (And.intro h4 (And.intro h5 h6)); clear h4 h5 h6))
      go_ret
      exact ⟨A4, c4, rfl, G4.out.1, G4.out.2.1, HB.out.trans (G4.out.2.2.mono HB.out.size)⟩
end Go.Proofs.Ytlmabmpdbcgabaa.G
