/- lists.Filter walked: its closures, keep, ContainsFunc. -/
import Derived.Test.YtlmabmpdbcgabaaPatMoreE
import Derived.Deep.RegionHeld3
import Derived.OwnWalk
import Derived.Maps.AppendAt
import Derived.Outline
namespace Go.Proofs.Ytlmabmpdbcgabaa.G
open Go.RowKit Go.Sort Go.Proofs.Ytlmabmpdbcgabaa.P Go.Proofs.YtlmabmpdbcgabaaW.PrintWords Go.Proofs.Ytlmabmpdbcgabaa.Pure

/-- A pattern read. -/
abbrev Pat := Bool × ByteArray × ByteArray
def patOf (s : ByteArray) : Pat := ((ofS s).1, ⟨(ofS s).2.1.toArray⟩, ⟨(ofS s).2.2.toArray⟩)
def patV (p : Pat) : List Value := [.bool p.1, .string p.2.1, .string p.2.2]
def fitsP (p : Pat) (w : ByteArray) : Bool := match pattern_Pattern_Match.f p.1 p.2.1 p.2.2 w with | some m => m.2 | none => false
def GoodP (p : Pat) : Prop := p.2.1.size + p.2.2.size ≤ 4611686018427387904
theorem of_patOf (s : ByteArray) (h : s.size ≤ 140737488355327) : pattern_Of.f s = some (patOf s) := by
  unfold pattern_Of.f
  rw [if_pos (by omega)]; rfl
theorem good_patOf (s : ByteArray) (h : s.size ≤ 140737488355327) : GoodP (patOf s) := by
  obtain ⟨p, hp, hz⟩ := of_some s (by omega)
  rw [of_patOf s h] at hp
  obtain rfl := Option.some.inj hp
  unfold GoodP; omega
theorem match_calls (p : Pat) (s : ByteArray) (w : World) (hp : GoodP p) (hs : s.size ≤ 4611686018427387904) :
    Calls Try.prog 31 #[.agg #[.bool p.1, .string p.2.1, .string p.2.2], .string s] w fun e w' => ∃ r, e = .returned (.tuple #[.string r, .bool (fitsP p s)]) ∧ Below w.heap.size w w' := by
  obtain ⟨m, hm, _⟩ := match_some p.1 p.2.1 p.2.2 s hs hp
  refine (pattern_Pattern_Match.calls p.1 p.2.1 p.2.2 s m.1 m.2 w hm).mono ?_
  rintro e w' ⟨rfl, hb⟩
  exact ⟨m.1, by unfold fitsP; rw [hm], hb⟩

set_option maxHeartbeats 1000000 in
theorem inner_calls (p : Pat) (s : ByteArray) (b : Nat) (w : World) (hp : GoodP p) (hs : s.size ≤ 4611686018427387904) (hb : w.cell? ⟨b, 0, none⟩ = some (.string s)) :
    Calls Try.prog 30 #[.agg #[.bool p.1, .string p.2.1, .string p.2.2], .pointer (some ⟨b, 0, none⟩)] w fun e w' => e = .returned (.bool (fitsP p s)) ∧ Below w.heap.size w w' := by
  have hbz := World.block_lt_of_cell? w _ hb
  simp only at hbz
  go_enter Try.func30, Try.ntmps30
  go_wp2_with (first
    | (go_at_call 31; refine (match_calls p s _ hp hs).mono ?_; rintro e w1 ⟨r, rfl, hB⟩; have B1 := Lib.hid (((Below.refl _ w).alloc (Nat.le_refl _) _).trans (hB.mono (by simp))); clear hB))
  go_ret
  exact ⟨rfl, B1.out⟩

/-- A row of patterns that is read. -/
def Pats (w : World) (A : Option Addr) (ps : List Pat) : Prop :=
  ps.length ≤ 1000000 ∧ (0 < ps.length → ∃ b off, A = some ⟨b, off, none⟩ ∧ b < w.heap.size ∧ ∀ j p, ps[j]? = some p → w.cell? ⟨b, off + j * 3, none⟩ = some (.bool p.1) ∧ w.cell? ⟨b, off + j * 3 + 1, none⟩ = some (.string p.2.1) ∧ w.cell? ⟨b, off + j * 3 + 2, none⟩ = some (.string p.2.2))
theorem Pats.below {w w' : World} {A : Option Addr} {ps : List Pat} (h : Pats w A ps) (hb : Below w.heap.size w w') : Pats w' A ps := by
  refine ⟨h.1, fun hp => ?_⟩
  obtain ⟨b, off, rfl, hz, hc⟩ := h.2 hp
  refine ⟨b, off, rfl, Nat.lt_of_lt_of_le hz hb.size, fun j p hj => ?_⟩
  obtain ⟨h0, h1, h2⟩ := hc j p hj
  exact ⟨(hb.cell (by exact hz)).trans h0, (hb.cell (by exact hz)).trans h1, (hb.cell (by exact hz)).trans h2⟩

/-- The place of the first that fits. -/
def firstP (ps : List Pat) (s : ByteArray) : Int := match ps.findIdx? (fun p => fitsP p s) with | some i => i | none => -1

theorem first_at {ps : List Pat} {s : ByteArray} {k : Nat} {p : Pat} (hp : ps[k]? = some p) (hf : fitsP p s = true) (hn : ∀ j, j < k → ∀ p, ps[j]? = some p → fitsP p s = false) : firstP ps s = (k : Int) := by
  obtain ⟨hk, he⟩ := List.getElem?_eq_some_iff.mp hp
  have : ps.findIdx? (fun p => fitsP p s) = some k := List.findIdx?_eq_some_iff_getElem.mpr ⟨hk, by rw [he]; exact hf, fun j hj => by
    have := hn j hj _ (List.getElem?_eq_getElem (by omega))
    simpa using this⟩
  unfold firstP; rw [this]
theorem first_none {ps : List Pat} {s : ByteArray} (hn : ∀ (j : Nat) (p : Pat), ps[j]? = some p → fitsP p s = false) : firstP ps s = -1 := by
  have : ps.findIdx? (fun p => fitsP p s) = none := List.findIdx?_eq_none_iff.mpr (fun p hp => by
    obtain ⟨j, hj⟩ := List.getElem?_of_mem hp
    exact hn j p hj)
  unfold firstP; rw [this]

set_option maxHeartbeats 4000000 in
theorem index_calls (ps : List Pat) (A : Option Addr) (c : Nat) (s : ByteArray) (b : Nat) (w : World) (hP : Pats w A ps) (hG : ∀ p ∈ ps, GoodP p) (hs : s.size ≤ 4611686018427387904) (hb : w.cell? ⟨b, 0, none⟩ = some (.string s)) :
    Calls Try.prog 41 #[.slice A ps.length c, .func (.func 30) #[] #[.pointer (some ⟨b, 0, none⟩)]] w fun e w' => e = .returned (.int .i64 (firstP ps s)) ∧ Below w.heap.size w w' := by
  have hbz := World.block_lt_of_cell? w _ hb
  simp only at hbz
  have hmax := hP.1
  have HP := Lib.hid hP
  have HG := Lib.hid hG
  clear hP hG
  go_enter Try.func41, Try.ntmps41
  go_wp2
  go_loopw [8] (fun i wr => ∃ k : Nat, k ≤ ps.length ∧ i = .int .i64 k ∧ Hid (∀ j, j < k → ∀ p, ps[j]? = some p → fitsP p s = false) ∧ Hid (Below w.heap.size w wr)) (fun i _ => ps.length - (intOf i).toNat)
  case atStart => exact ⟨0, Nat.zero_le _, rfl, Lib.hid (fun j hj => absurd hj (Nat.not_lt_zero _)), Lib.hid (Below.refl _ _)⟩
  case round =>
    obtain ⟨k, hk, rfl, HN, HB⟩ := hrel
    by_cases hlt : k < ps.length
    · obtain ⟨p, hp⟩ : ∃ p, ps[k]? = some p := ⟨_, List.getElem?_eq_getElem hlt⟩
      obtain ⟨b1, off, rfl, hz, hc⟩ := (HP.out.below HB.out).2 (by omega)
      obtain ⟨e0, e1, e2⟩ := hc k p hp
      have hbx := (HB.out.cell (p := ⟨b, 0, none⟩) (by exact hbz)).trans hb
      have hgp := HG.out p (List.mem_of_getElem? hp)
      have HF := Lib.hid hp
      clear hc hp
      cases hfit : fitsP p s
      all_goals
        have HFIT := Lib.hid hfit
        clear hfit
        go_wp2_with (first
          | (go_at_call 30; refine (inner_calls p s b _ hgp hs hbx).mono ?_; rw [HFIT.out]; rintro e w1 ⟨rfl, hB⟩; have B1 := Lib.hid (HB.out.trans (hB.mono HB.out.size)); clear hB))
      · go_roundw
        case rel =>
          refine ⟨k + 1, by omega, by go_num, Lib.hid (fun j hj p' hp' => ?_), B1⟩
          by_cases hjk : j = k
          · subst hjk
            rw [HF.out] at hp'
            obtain rfl := Option.some.inj hp'
            exact HFIT.out
          · exact HN.out j (by omega) p' hp'
        case measure => simp [intOf]; omega
      · go_ret
        exact ⟨by rw [first_at HF.out HFIT.out HN.out]; rfl, B1.out⟩
    · go_wp2
      go_ret
      exact ⟨by rw [first_none (fun j p hj => HN.out j (by have := (List.getElem?_eq_some_iff.mp hj).1; omega) p hj)]; rfl, HB.out⟩

def anyP (ps : List Pat) (s : ByteArray) : Bool := ps.any (fun p => fitsP p s)
theorem first_any (ps : List Pat) (s : ByteArray) : decide ((0 : Int) ≤ firstP ps s) = anyP ps s := by
  unfold firstP anyP
  cases h : ps.findIdx? (fun p => fitsP p s) with
  | none =>
    have := List.findIdx?_eq_none_iff.mp h
    have h0 : ps.any (fun p => fitsP p s) = false := by
      rw [Bool.eq_false_iff]
      intro hh
      obtain ⟨p, hp, hf⟩ := List.any_eq_true.mp hh
      have := this p hp
      rw [hf] at this; cases this
    rw [h0]
    rfl
  | some i =>
    obtain ⟨hl, hf, _⟩ := List.findIdx?_eq_some_iff_getElem.mp h
    have h0 : ps.any (fun p => fitsP p s) = true := List.any_eq_true.mpr ⟨_, List.getElem_mem hl, hf⟩
    rw [h0]
    simp

set_option maxHeartbeats 1000000 in
theorem contains_calls (ps : List Pat) (A : Option Addr) (c : Nat) (s : ByteArray) (b : Nat) (w : World) (hP : Pats w A ps) (hG : ∀ p ∈ ps, GoodP p) (hs : s.size ≤ 4611686018427387904) (hb : w.cell? ⟨b, 0, none⟩ = some (.string s)) :
    Calls Try.prog 29 #[.slice A ps.length c, .func (.func 30) #[] #[.pointer (some ⟨b, 0, none⟩)]] w fun e w' => e = .returned (.bool (anyP ps s)) ∧ Below w.heap.size w w' := by
  have HI := Lib.hid (index_calls ps A c s b w hP hG hs hb)
  have HA := Lib.hid (first_any ps s)
  clear hP hG
  go_enter Try.func29, Try.ntmps29
  go_wp2_with (first
    | (go_at_call 41; refine HI.out.mono ?_; rintro e w1 ⟨rfl, hB⟩; have B1 := Lib.hid hB; clear hB))
  go_ret
  exact ⟨by rw [← HA.out]; rfl, B1.out⟩

set_option maxHeartbeats 1000000 in
theorem outer_calls (ps : List Pat) (A : Option Addr) (c : Nat) (s : ByteArray) (out : Bool) (b1 b2 : Nat) (w : World) (hP : Pats w A ps) (hG : ∀ p ∈ ps, GoodP p) (hs : s.size ≤ 4611686018427387904) (h1 : w.cell? ⟨b1, 0, none⟩ = some (.slice A ps.length c)) (h2 : w.cell? ⟨b2, 0, none⟩ = some (.bool out)) :
    Calls Try.prog 28 #[.string s, .pointer (some ⟨b1, 0, none⟩), .pointer (some ⟨b2, 0, none⟩)] w fun e w' => e = .returned (.bool (anyP ps s != out)) ∧ Below w.heap.size w w' := by
  have hz1 := World.block_lt_of_cell? w _ h1
  have hz2 := World.block_lt_of_cell? w _ h2
  simp only at hz1 hz2
  have HP := Lib.hid (hP.below ((Below.refl _ w).alloc (Nat.le_refl _) (.cells #[.string s] 9)))
  have HG := Lib.hid hG
  have hmf : ∀ (fn : Fn) (first cap : Array Value) (w : World), (Instr.makeFunc fn first cap).run Try.prog w = .ok (.func fn first cap) w := fun _ _ _ _ => rfl
  have hbx : (w.alloc (.cells #[.string s] 9)).cell? ⟨w.heap.size, 0, none⟩ = some (.string s) := by rw [World.cell?_alloc_at _ _ _ _ rfl]; rfl
  have HX := Lib.hid hbx
  clear hP hG hbx
  go_enter Try.func28, Try.ntmps28
  go_wp2_with (first
    | (go_at_call 29; refine (contains_calls ps A c s w.heap.size _ HP.out HG.out hs HX.out).mono ?_; rintro e w1 ⟨rfl, hB⟩; have h3 := (hB.cell (p := ⟨b2, 0, none⟩) (by simp; omega)).trans ((World.cell?_alloc_past (w := w) (.cells #[.string s] 9) b2 0 hz2).trans h2); have B1 := Lib.hid (((Below.refl _ w).alloc (Nat.le_refl _) _).trans (hB.mono (by simp))); clear hB))
  go_ret
  exact ⟨rfl, B1.out⟩

/-- Those that fit, or those that do not. -/
def keepB (ps : List Pat) (out : Bool) (l : List ByteArray) : List ByteArray := l.filter (fun s => anyP ps s != out)
theorem keepB_step (ps : List Pat) (out : Bool) {l : List ByteArray} {k : Nat} {s : ByteArray} (hs : l[k]? = some s) : keepB ps out (l.take (k + 1)) = if (anyP ps s != out) = true then keepB ps out (l.take k) ++ [s] else keepB ps out (l.take k) := by
  obtain ⟨hk, h⟩ := List.getElem?_eq_some_iff.mp hs
  rw [List.take_succ_eq_append_getElem hk, h]
  unfold keepB
  rw [List.filter_append]
  cases hb : (anyP ps s != out) <;> simp [hb]
theorem info_str : (Try.prog.info? 9).map (fun i => (i.zero, i.size, i.bytes)) = some (some (.string ⟨#[]⟩), 1, 16) := by kernel_rfl
theorem Row.snoc {w : World} {base : Nat} {v : Value} {l : List ByteArray} {s : ByteArray} (h : w.ownsRow base 9 1 v (l.length + 1) (l.map Value.string ++ [.string s])) : Row w base v (l ++ [s]) := by
  unfold Row; rw [List.length_append, List.map_append]; exact h

set_option maxHeartbeats 4000000 in
set_option maxRecDepth 100000 in
theorem keep_calls (ps : List Pat) (A : Option Addr) (c : Nat) (out : Bool) (b1 b2 : Nat) (AL : Option Addr) (cL : Nat) (l : List ByteArray) (w : World) (hP : Pats w A ps) (hG : ∀ p ∈ ps, GoodP p) (h1 : w.cell? ⟨b1, 0, none⟩ = some (.slice A ps.length c)) (h2 : w.cell? ⟨b2, 0, none⟩ = some (.bool out))
    (hL : Strs w AL l) (hl : l.length ≤ 1000000) (hz : ∀ s ∈ l, s.size ≤ 4611686018427387904) :
    Calls Try.prog 27 #[.slice AL l.length cL, .func (.func 28) #[] #[.pointer (some ⟨b1, 0, none⟩), .pointer (some ⟨b2, 0, none⟩)]] w fun e w' => Gives w w' e (keepB ps out l) := by
  obtain ⟨i0, hi, hz0, hz1, hz2⟩ := info_parts info_str
  have hb1 := World.block_lt_of_cell? w _ h1
  have hb2 := World.block_lt_of_cell? w _ h2
  simp only at hb1 hb2
  have HP := Lib.hid hP
  have HG := Lib.hid hG
  have HL := Lib.hid hL
  have HZ := Lib.hid hz
  clear hP hG hL hz
  go_enter Try.func27, Try.ntmps27
  go_wp2
  go_loopw [5, 10] (fun v i wr => ∃ k : Nat, k ≤ l.length ∧ i = .int .i64 k ∧ Hid (Row wr w.heap.size v (keepB ps out (l.take k))) ∧ Hid (Below w.heap.size w wr)) (fun _ i _ => l.length - (intOf i).toNat)
  case atStart => exact ⟨0, Nat.zero_le _, rfl, Lib.hid (Row.nil _ _), Lib.hid (Below.refl _ _)⟩
  case round =>
    obtain ⟨k, hk, rfl, HR, HB⟩ := hrel
    by_cases hlt : k < l.length
    · obtain ⟨s, hs⟩ : ∃ s, l[k]? = some s := ⟨_, List.getElem?_eq_getElem hlt⟩
      obtain ⟨bL, off, rfl, hzL, hc⟩ := HL.out.cells (by omega)
      have e0 := (HB.out.cell (p := ⟨bL, off + k, none⟩) (by exact hzL)).trans (hc k s hs)
      have g1 := (HB.out.cell (p := ⟨b1, 0, none⟩) (by exact hb1)).trans h1
      have g2 := (HB.out.cell (p := ⟨b2, 0, none⟩) (by exact hb2)).trans h2
      have hsz := HZ.out s (List.mem_of_getElem? hs)
      have HST := Lib.hid (keepB_step ps out hs)
      have HK := Lib.hid (show (keepB ps out (l.take k)).length ≤ 1000000 from Nat.le_trans (List.length_filter_le _ _) (by simp; omega))
      have T1 := Lib.hid (outer_calls ps A c s out b1 b2 wr (HP.out.below HB.out) HG.out hsz g1 g2)
      clear hs hc
      cases hfit : (anyP ps s != out)
      all_goals
        have HFIT := Lib.hid hfit
        clear hfit
        go_wp2_with (first
          | (go_at_call 28; refine T1.out.mono ?_; rw [HFIT.out]; rintro e w1 ⟨rfl, hB⟩; have B1 := Lib.hid (HB.out.trans (hB.mono HB.out.size)); have R1 := Lib.hid (own_move HR.out (fun j hj => hB.block j (HR.out.lt j hj).2)); clear hB)
          | (at_builtin; refine wpList_append_own _ rfl _ _ 22 rfl w.heap.size 9 i0 _ 1 16 Try.underlying22 hi hz0 hz1 hz2 rfl (by decide) _ _ _ rfl (R1.out.alloc _) ⟨w1.heap.size, 0, none⟩ 1 1 [.string s] rfl rfl (cell_one_new _ _ _) (by intro u hu; simp at hu; subst hu; rfl) (by have := HK.out; unfold maxLen; omega) (by have := HK.out; omega) (by have := B1.out.size; simp; omega) ?_; intro v2 w2 hown2 hgr2 _; have O2 := Lib.hid hown2; have G2 := Lib.hid hgr2; clear hown2 hgr2))
      · go_roundw
        case rel => exact ⟨k + 1, by omega, by go_num, Lib.hid (by rw [HST.out, HFIT.out]; exact R1.out), B1⟩
        case measure => simp [intOf]; omega
      · go_roundw
        case rel =>
          refine ⟨k + 1, by omega, by go_num, Lib.hid ?_, Lib.hid ?_⟩
          · rw [HST.out, HFIT.out, if_pos rfl]
            exact Row.snoc O2.out
          · exact (B1.out.alloc B1.out.size _).grown G2.out (by have := B1.out.size; simp; omega) (fun j hj => (R1.out.lt j hj).1)
        case measure => simp [intOf]; omega
    · go_wp2
      go_ret
      have hr := HR.out
      rw [List.take_of_length_le (by omega)] at hr
      exact Gives.of_row hr HB.out
end Go.Proofs.Ytlmabmpdbcgabaa.G
