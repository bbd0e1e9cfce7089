/- lists.Slice walked; the statements. -/
import Derived.Test.YtlmabmpdbcgabaaListsPlain3
namespace Go.Proofs.Ytlmabmpdbcgabaa.G
open Go.RowKit Go.Sort Go.Proofs.Ytlmabmpdbcgabaa.P Go.Proofs.YtlmabmpdbcgabaaW.PrintWords Go.Proofs.Ytlmabmpdbcgabaa.Pure

theorem strs_cut {w : World} {A : Option Addr} {l : List ByteArray} (h : Strs w A l) (lo hi : Nat) : Strs w (Option.map (fun x : Addr => x.add lo) A) ((l.take hi).drop lo) := by
  by_cases h0 : ((l.take hi).drop lo).length = 0
  · rw [List.length_eq_zero_iff.mp h0]; exact Strs.nil _ _
  · have hl : 0 < l.length := by simp at h0; omega
    obtain ⟨b, off, rfl, _, hc⟩ := h.cells hl
    have e : Option.map (fun x : Addr => x.add lo) (some ⟨b, off, none⟩) = some ⟨b, off + lo, none⟩ := by simp [add_any]
    rw [e]
    refine Strs.mk (by have := h.cut; simp; omega) (fun j s hs => ?_)
    rw [List.getElem?_drop] at hs
    have hj : lo + j < hi := by have := (List.getElem?_eq_some_iff.mp hs).1; simp at this; omega
    rw [List.getElem?_take_of_lt hj] at hs
    rw [Nat.add_assoc]
    exact hc (lo + j) s hs
theorem cut_whole (f t : Int) (l : List ByteArray) : cutB f t 0 l = (l.take t.toNat).drop (f - 1).toNat := by
  have := cut_is f t l 0
  simpa using this
theorem cut_nothing (f t : Int) (l : List ByteArray) (h : min t (l.length : Int) < max f 1) : cutB f t 0 l = [] := by
  rw [cut_whole]
  refine List.drop_eq_nil_of_le ?_
  rw [List.length_take]
  omega
theorem cut_some (f t : Int) (l : List ByteArray) (h : max f 1 ≤ min t (l.length : Int)) : cutB f t 0 l = (l.take (min t (l.length : Int)).toNat).drop ((max f 1).toNat - 1) := by
  rw [cut_whole]
  have e1 : (f - 1).toNat = (max f 1).toNat - 1 := by omega
  rw [e1]
  congr 1
  by_cases ht : t ≤ (l.length : Int)
  · rw [show (min t (l.length : Int)).toNat = t.toNat by omega]
  · rw [List.take_of_length_le (by omega), List.take_of_length_le (by omega)]

set_option maxHeartbeats 1000000 in
theorem slice_calls (w : World) (A : Option Addr) (c : Nat) (l : List ByteArray) (f t : Int) (h : Strs w A l) (hl : l.length ≤ 1000) (hc : l.length ≤ c) :
    Calls Try.prog 16 #[.slice A l.length c, .int .i64 f, .int .i64 t] w fun e w' => Gives w w' e (cutB f t 0 l) := by
  have hcl : ((l.take (min t (l.length : Int)).toNat).drop ((max f 1).toNat - 1)).length = (min t (l.length : Int)).toNat - ((max f 1).toNat - 1) := by simp; omega
  have HC := clone_row w _ (c - ((max f 1).toNat - 1)) _ (strs_cut h ((max f 1).toNat - 1) (min t (l.length : Int)).toNat) (by rw [hcl]; omega)
  rw [hcl] at HC
  have HC2 := Lib.hid HC
  have H0 := Lib.hid (cut_nothing f t l)
  have H1 := Lib.hid (cut_some f t l)
  clear h hcl HC
  by_cases hft : max f 1 ≤ min t (l.length : Int)
  · go_enter Try.func16, Try.ntmps16
    go_wp2_with (go_at_call 23; refine HC2.out.mono ?_; rintro e w1 ⟨v, rfl, hR, hB⟩; have R1 := Lib.hid hR; have B1 := Lib.hid hB; clear hR hB)
    go_ret
    rw [H1.out hft]
    exact Gives.of_row R1.out B1.out
  · have hft2 : min t (l.length : Int) < max f 1 := by omega
    go_enter Try.func16, Try.ntmps16
    go_wp2
    go_ret
    rw [H0.out hft2]
    exact Gives.of_row (Row.nil _ _) (Below.refl _ _)

theorem few_b (w : World) (A : Option Addr) (c : Nat) (l : List ByteArray) (h : Strs w A l) (hc : l.length ≤ c) (hl : l.length ≤ 140737488351232) :
    Calls Try.prog 7 #[.slice A l.length c] w fun e w' => ∃ b, e = .returned (.bool b) ∧ (b = true → l.length ≤ 60 ∧ ∀ s ∈ l, s.size ≤ 60) ∧ Below w.heap.size w w' := by
  refine (few_calls w A c l h hc hl).mono ?_
  rintro e w' ⟨b, rfl, hb, n, rfl⟩
  exact ⟨b, rfl, hb, rfl, rfl, rfl, Nat.le_refl _, fun _ _ => rfl⟩
theorem pairs_calls (w : World) (A0 A1 : Option Addr) (c0 c1 : Nat) (a b : List ByteArray) (h0 : Strs w A0 a) (h1 : Strs w A1 b) (hc0 : a.length ≤ c0) (hc1 : b.length ≤ c1) (ha : Small a) (hb : Small b) :
    Calls Try.prog 14 #[.slice A0 a.length c0, .slice A1 b.length c1] w fun e w' => Gives w w' e (pairs a b) := by
  refine (lists_Pairs.calls 3000 A0 c0 a A1 c1 b _ w h0 hc0 h1 hc1 (pairs_is a b ha hb 3000 (Nat.le_refl _)).1).mono ?_
  rintro e w' ⟨v, rfl, hr, hbl⟩
  exact Gives.of_R hr hbl
theorem rpairs_calls (w : World) (A0 A1 : Option Addr) (c0 c1 : Nat) (a b : List ByteArray) (h0 : Strs w A0 a) (h1 : Strs w A1 b) (hc0 : a.length ≤ c0) (hc1 : b.length ≤ c1) (ha : Small a) (hb : Small b) :
    Calls Try.prog 15 #[.slice A0 a.length c0, .slice A1 b.length c1] w fun e w' => Gives w w' e (pairs a b) := by
  refine (wainwrightref05_Pairs.calls 3000 A0 c0 a A1 c1 b _ w h0 hc0 h1 hc1 (pairs_is a b ha hb 3000 (Nat.le_refl _)).2).mono ?_
  rintro e w' ⟨v, rfl, hr, hbl⟩
  exact Gives.of_R hr hbl
theorem each_calls (w : World) (A0 : Option Addr) (c0 : Nat) (l : List ByteArray) (a b : ByteArray) (h0 : Strs w A0 l) (hc0 : l.length ≤ c0) (hl : Small l) (ha : a.size ≤ 1000) (hb : b.size ≤ 1000) :
    Calls Try.prog 18 #[.slice A0 l.length c0, .string a, .string b] w fun e w' => Gives w w' e (eachB a b l) := by
  refine (lists_Each.calls 2000 A0 c0 l a b _ w h0 hc0 (each_is a b l ha hb hl 2000 (Nat.le_refl _)).1).mono ?_
  rintro e w' ⟨v, rfl, hr, hbl⟩
  exact Gives.of_R hr hbl
theorem reach_calls (w : World) (A0 : Option Addr) (c0 : Nat) (l : List ByteArray) (a b : ByteArray) (h0 : Strs w A0 l) (hc0 : l.length ≤ c0) (hl : Small l) (ha : a.size ≤ 1000) (hb : b.size ≤ 1000) :
    Calls Try.prog 19 #[.slice A0 l.length c0, .string a, .string b] w fun e w' => Gives w w' e (eachB a b l) := by
  refine (wainwrightref05_Each.calls 2000 A0 c0 l a b _ w h0 hc0 (each_is a b l ha hb hl 2000 (Nat.le_refl _)).2).mono ?_
  rintro e w' ⟨v, rfl, hr, hbl⟩
  exact Gives.of_R hr hbl
theorem rslice_calls (w : World) (A0 : Option Addr) (c0 : Nat) (l : List ByteArray) (f t : Int) (h0 : Strs w A0 l) (hc0 : l.length ≤ c0) (hl : l.length ≤ 1000) :
    Calls Try.prog 17 #[.slice A0 l.length c0, .int .i64 f, .int .i64 t] w fun e w' => Gives w w' e (cutB f t 0 l) := by
  refine (wainwrightref05_Slice.calls 2000 A0 c0 l f t _ w h0 hc0 (slice_is f t l hl 2000 (Nat.le_refl _))).mono ?_
  rintro e w' ⟨v, rfl, hr, hbl⟩
  exact Gives.of_R hr hbl
theorem rfilter_calls (w : World) (A0 A1 : Option Addr) (c0 c1 : Nat) (q l : List ByteArray) (out : Bool) (h0 : Strs w A0 q) (h1 : Strs w A1 l) (hc0 : q.length ≤ c0) (hc1 : l.length ≤ c1) (hq : Small q) (hl : Small l) :
    Calls Try.prog 13 #[.slice A0 q.length c0, .slice A1 l.length c1, .bool out] w fun e w' => Gives w w' e (keepB (pats q) out l) := by
  obtain ⟨k, hk⟩ := filter_is q l out hq hl
  refine (wainwrightref05_Filter.calls k A0 c0 q A1 c1 l out _ w h0 hc0 h1 hc1 hk).mono ?_
  rintro e w' ⟨v, rfl, hr, hbl⟩
  exact Gives.of_R hr hbl
theorem lfilter_calls (w : World) (A0 A1 : Option Addr) (c0 c1 : Nat) (q l : List ByteArray) (out : Bool) (h0 : Strs w A0 q) (h1 : Strs w A1 l) (hq : Small q) (hl : Small l) :
    Calls Try.prog 12 #[.slice A0 q.length c0, .slice A1 l.length c1, .bool out] w fun e w' => Gives w w' e (keepB (pats q) out l) :=
  filter_calls A0 c0 q A1 c1 l out w h0 (by have := hq.1; omega) (fun s hs => by have := hq.2 s hs; omega) h1 (by have := hl.1; omega) (fun s hs => by have := hl.2 s hs; omega)
theorem keep_len (ps : List Pat) (out : Bool) (l : List ByteArray) : (keepB ps out l).length ≤ l.length := List.length_filter_le _ _
theorem cut_len (f t : Int) (l : List ByteArray) : (cutB f t 0 l).length ≤ l.length := by rw [cut_whole]; simp; omega
theorem sortB_len (l : List ByteArray) : (sortB l).length ≤ l.length := by
  unfold sortB; rw [texts_len]; have := compact_le (srt l); rw [srt_len] at this; exact this
theorem pairs_len (a b : List ByteArray) : (pairs a b).length = max a.length b.length := by unfold pairs pairsB; simp

end Go.Proofs.Ytlmabmpdbcgabaa.G
