/- wainwrightlaw22.MemoOldest: the walk of the law, for every two numbers. -/
import Derived.Test.YtabdjijlmiobhaaMemoAt
namespace Go.Proofs.Ytabdjijlmiobhaa.G
open Go.RowKit Go.Maps Go.Sort

theorem dig_inj : ∀ i j : Fin 80, dig i.val = dig j.val → i = j := by decide +kernel
attribute [local irreducible] dig
/-- The entry of number i. -/
def vOf (i : Nat) : ByteArray := ⟨#[118]⟩ ++ dig i
def entOf (i : Nat) : Ent := ⟨dig i, 7, i, vOf i⟩
/-- Behind k puts: the last ones. -/
def lastE (m k : Nat) : List Ent := ((List.range k).drop (k - m)).map entOf
theorem lastE_len (m k : Nat) : (lastE m k).length = min m k := by
  unfold lastE
  simp
  omega
theorem lastE_mem (m k : Nat) (e : Ent) : e ∈ lastE m k ↔ ∃ i, k - m ≤ i ∧ i < k ∧ e = entOf i := by
  unfold lastE
  simp only [List.mem_map, List.mem_drop_iff_getElem, List.getElem_range, List.length_range]
  constructor
  · rintro ⟨i, ⟨j, hj, rfl⟩, rfl⟩
    exact ⟨k - m + j, by omega, by omega, rfl⟩
  · rintro ⟨i, h1, h2, rfl⟩
    exact ⟨i, ⟨i - (k - m), by omega, by omega⟩, rfl⟩
theorem dig_new (m k : Nat) (hk : k < 80) : dig k ∉ names (lastE m k) := by
  intro h
  obtain ⟨e, he, hn⟩ := List.mem_map.mp h
  obtain ⟨i, _, hi, rfl⟩ := (lastE_mem m k e).mp he
  have := dig_inj ⟨i, by omega⟩ ⟨k, hk⟩ hn
  simp at this
  omega
theorem put_last (m k : Nat) (hk : k < 80) : putE (m : Int) (lastE m k) (entOf k) = lastE m (k + 1) := by
  have hw : without (lastE m k) (entOf k).name = lastE m k := without_self (dig_new m k hk)
  have hs : lastE m k ++ [entOf k] = ((List.range (k + 1)).drop (k - m)).map entOf := by
    unfold lastE
    rw [List.range_succ, List.drop_append_of_le_length (by simp), List.map_append]; rfl
  unfold putE
  rw [hw]
  by_cases h0 : m = 0
  · subst h0
    rw [if_pos (show ((0 : Nat) : Int) = 0 from rfl)]
    unfold lastE
    rw [List.drop_eq_nil_of_le (by simp), List.drop_eq_nil_of_le (by simp)]
  · rw [if_neg (by omega)]
    by_cases hm : m ≤ k
    · rw [if_pos (by rw [List.length_append, lastE_len]; simp; omega), hs]
      unfold lastE
      rw [← List.map_tail, List.tail_drop, show k - m + 1 = k + 1 - m by omega]
    · rw [if_neg (by rw [List.length_append, lastE_len]; simp; omega), hs]
      unfold lastE
      rw [show k - m = k + 1 - m by omega]
theorem find_last (m k i : Nat) (hk : k ≤ 80) (hi : i < k) : findE (lastE m k) (dig i) = if k - m ≤ i then some (entOf i) else none := by
  by_cases h : k - m ≤ i
  · rw [if_pos h]
    cases hf : findE (lastE m k) (dig i) with
    | none =>
      have := List.find?_eq_none.mp hf (entOf i) ((lastE_mem m k _).mpr ⟨i, h, hi, rfl⟩)
      simp [entOf] at this
    | some e =>
      have h1 := List.mem_of_find?_eq_some hf
      have h2 := List.find?_some hf
      obtain ⟨j, _, hj, rfl⟩ := (lastE_mem m k e).mp h1
      have hd : dig j = dig i := of_decide_eq_true (show decide (dig j = dig i) = true from h2)
      have := dig_inj ⟨j, by omega⟩ ⟨i, by omega⟩ hd
      simp at this
      rw [this]
  · rw [if_neg h]
    refine List.find?_eq_none.mpr (fun e he => ?_)
    obtain ⟨j, h1, hj, rfl⟩ := (lastE_mem m k e).mp he
    simp only [decide_eq_true_eq]
    intro hd
    have := dig_inj ⟨j, by omega⟩ ⟨i, by omega⟩ hd
    simp at this
    omega
theorem fit_last (m k i : Nat) (hk : k ≤ 80) (hi : i < k) : fitE (lastE m k) (dig i) 7 i = if k - m ≤ i then some (vOf i) else none := by
  unfold fitE
  rw [find_last m k i hk hi]
  by_cases h : k - m ≤ i
  · rw [if_pos h, if_pos h]
    exact if_pos ⟨rfl, Int.le_refl _⟩
  · rw [if_neg h, if_neg h]

theorem dig_le (i : Nat) (h : i < 120) : (dig i).size ≤ maxLen := by have := dig_size i h; unfold maxLen; omega
theorem get_last {base : Nat} {w0 w : World} {cb n m k j : Nat} {bm : Nat} (hA : At base w0 w cb n m ((j - (k - m) : Nat) : Int) (lastE m k) bm) (hk : k ≤ 80) (hj : j < k) :
    Calls Try.prog 19 #[.pointer (some ⟨cb, 0, none⟩), .string (dig j), .int .i64 7, .int .i64 j] w fun y w' => y = .returned (.tuple #[.string (if (k : Int) - m ≤ j then vOf j else ⟨#[]⟩), .bool (decide ((k : Int) - m ≤ j))]) ∧ At base w0 w' cb n m ((j + 1 - (k - m) : Nat) : Int) (lastE m k) bm := by
  have := get_at hA (dig j) 7 j (dig_le j (by omega))
  rw [fit_last m k j hk hj] at this
  by_cases h : k - m ≤ j
  · have h' : (k : Int) - m ≤ j := by omega
    rw [if_pos h] at this
    simp only [Option.getD_some, Option.isSome_some, if_true] at this
    rw [if_pos h', decide_eq_true h']
    have e : wrap64 (((j - (k - m) : Nat) : Int) + 1) = ((j + 1 - (k - m) : Nat) : Int) := by unfold wrap64; omega
    rw [e] at this
    exact this
  · have h' : ¬ (k : Int) - m ≤ j := by omega
    rw [if_neg h] at this
    simp only [Option.getD_none, Option.isSome_none, Bool.false_eq_true, if_false] at this
    rw [if_neg h', decide_eq_false h']
    have e : ((j - (k - m) : Nat) : Int) = ((j + 1 - (k - m) : Nat) : Int) := by omega
    rw [e] at this
    exact this

theorem get_yes {base : Nat} {w0 w : World} {cb n m k j : Nat} {bm : Nat} (hA : At base w0 w cb n m ((j - (k - m) : Nat) : Int) (lastE m k) bm) (hk : k ≤ 80) (hj : j < k) (h : (k : Int) - m ≤ j) :
    Calls Try.prog 19 #[.pointer (some ⟨cb, 0, none⟩), .string (dig j), .int .i64 7, .int .i64 j] w fun y w' => y = .returned (.tuple #[.string (⟨#[118]⟩ ++ dig j), .bool true]) ∧ At base w0 w' cb n m ((j + 1 - (k - m) : Nat) : Int) (lastE m k) bm := by
  have := get_last hA hk hj
  rw [if_pos h, decide_eq_true h] at this
  exact this
theorem get_no {base : Nat} {w0 w : World} {cb n m k j : Nat} {bm : Nat} (hA : At base w0 w cb n m ((j - (k - m) : Nat) : Int) (lastE m k) bm) (hk : k ≤ 80) (hj : j < k) (h' : (j : Int) < (k : Int) - m) :
    Calls Try.prog 19 #[.pointer (some ⟨cb, 0, none⟩), .string (dig j), .int .i64 7, .int .i64 j] w fun y w' => y = .returned (.tuple #[.string ⟨#[]⟩, .bool false]) ∧ At base w0 w' cb n m ((j + 1 - (k - m) : Nat) : Int) (lastE m k) bm := by
  have h : ¬ (k : Int) - m ≤ j := by omega
  have := get_last hA hk hj
  rw [if_neg h, decide_eq_false h] at this
  exact this
theorem put_gen {base : Nat} {w0 w : World} {cb n m : Nat} {bm : Nat} {E E' : List Ent} (d : ByteArray) (j : Nat) (v : ByteArray) (hA : At base w0 w cb n (m : Int) 0 E bm) (h1 : d.size ≤ maxLen) (h2 : n < maxLen) (h3 : (E.length : Int) ≤ (m : Int)) (h4 : (m : Int) ≤ 1000)
    (e : putE (m : Int) E ⟨d, 7, (j : Int), v⟩ = E') :
    Calls Try.prog 18 #[.pointer (some ⟨cb, 0, none⟩), .string d, .int .i64 7, .int .i64 j, .string v] w fun y w' => y = .returned (.tuple #[]) ∧ At base w0 w' cb (n + 1) m 0 E' bm :=
  put_at hA d 7 j v h1 h2 h3 h4 E' e
theorem put_e (m j : Nat) (hj : j < 80) : putE (m : Int) (lastE m j) ⟨dig j, 7, (j : Int), (⟨#[118]⟩ : ByteArray) ++ dig j⟩ = lastE m (j + 1) := put_last m j hj
theorem put_h3 (m j : Nat) : ((lastE m j).length : Int) ≤ (m : Int) := by rw [lastE_len]; omega
theorem put_h2 (j : Nat) (h : j < 80) : j < maxLen := by unfold maxLen; omega
theorem put_old {base : Nat} {w0 w : World} {cb m j : Nat} {bm : Nat} (hA : At base w0 w cb j m 0 (lastE m j) bm) (hm : m < 40) (hj : j < 80) :
    Calls Try.prog 18 #[.pointer (some ⟨cb, 0, none⟩), .string (dig j), .int .i64 7, .int .i64 j, .string ((⟨#[118]⟩ : ByteArray) ++ dig j)] w fun y w' => y = .returned (.tuple #[]) ∧ At base w0 w' cb (j + 1) m 0 (lastE m (j + 1)) bm :=
  put_gen (dig j) j ((⟨#[118]⟩ : ByteArray) ++ dig j) hA (dig_le j (by omega)) (put_h2 j hj) (put_h3 m j) (by omega) (put_e m j hj)
theorem last_zero (m : Nat) : lastE m 0 = [] := by simp [lastE]
theorem len_old {base : Nat} {w0 w : World} {cb n m k : Nat} {h : Int} {bm : Nat} (hA : At base w0 w cb n m h (lastE m k) bm) :
    Calls Try.prog 20 #[.pointer (some ⟨cb, 0, none⟩)] w fun e w' => e = .returned (.int .i64 (min (m : Int) (k : Int))) ∧ w' = w := by
  have := len_at hA
  rw [lastE_len, show ((min m k : Nat) : Int) = min (m : Int) (k : Int) by omega] at this
  exact this
theorem hits_old {base : Nat} {w0 w : World} {cb n m k : Nat} {bm : Nat} (hA : At base w0 w cb n m ((k - (k - m) : Nat) : Int) (lastE m k) bm) :
    Calls Try.prog 21 #[.pointer (some ⟨cb, 0, none⟩)] w fun e w' => e = .returned (.int .i64 (min (m : Int) (k : Int))) ∧ w' = w := by
  have := hits_at hA
  rw [show ((k - (k - m) : Nat) : Int) = min (m : Int) (k : Int) by omega] at this
  exact this

set_option maxHeartbeats 4000000 in
set_option maxRecDepth 100000 in
theorem memoOldest_walk (a0 a1 : Int) (w : World) (_w0 : (Lit.int .i64 a0).wf = true) (_w1 : (Lit.int .i64 a1).wf = true) :
    Calls Try.prog 5 #[.int .i64 a0, .int .i64 a1] w fun e w' => e = .returned (.bool true) ∧ Below w.heap.size w w' := by
  clear _w0 _w1
  go_enter Try.func5, Try.ntmps5
  have T1 : Hid True := trivial
  go_wp2_with (first
    | (clear T1; go_at_call 16; refine (place_any a0 40 (by decide) (by decide) _).mono ?_; rintro e w1 ⟨m, hm, hm1, rfl, hb1⟩; have H1 := Lib.hid hb1; clear hm hb1)
    | (go_at_call 16; refine (place_any a1 80 (by decide) (by decide) _).mono ?_; rintro e w2 ⟨K, hK, hK1, rfl, hb2⟩; have H2 := Lib.hid (H1.out.trans (hb2.mono H1.out.size)); clear hK hb2)
    | (go_at_call 12; refine (new_at (m : Int) _ m (by omega)).mono ?_; rintro e w3 ⟨cb, bm, rfl, hA⟩; have HA0 := Lib.hid hA; clear hA))
  have HA1 : Hid (At w2.heap.size w2 w3 cb 0 m 0 (lastE m 0) bm) := Lib.hid (by rw [last_zero]; exact HA0.out)
  clear HA0
  go_loopw [8] (fun v8 wr => ∃ j : Nat, j ≤ K ∧ v8 = .int .i64 j ∧ Hid (At w2.heap.size w2 wr cb j m 0 (lastE m j) bm)) (fun i _ => K - (intOf i).toNat)
  case atStart => exact ⟨0, Nat.zero_le _, rfl, HA1⟩
  case round =>
    obtain ⟨j, hj, rfl, HA⟩ := hrel
    by_cases hin : j < K
    · have hds := dig_size j (by omega)
      have T2 : Hid True := trivial
      go_wp2_with (first
        | (clear T2; go_at_call 17; refine (dig_at HA.out j (by omega)).mono ?_; rintro e w4 ⟨rfl, hA⟩; have A1 := Lib.hid hA; clear hA)
        | (go_at_call 17; refine (dig_at A1.out j (by omega)).mono ?_; rintro e w5 ⟨rfl, hA⟩; have A2 := Lib.hid hA; clear hA)
        | (go_at_call 18; refine (put_old A2.out (by omega) (by omega)).mono ?_; rintro e w6 ⟨rfl, hA⟩; have A3 := Lib.hid hA; clear hA))
      go_roundw
      case rel => exact ⟨j + 1, by omega, by go_num, A3⟩
      case measure => simp [intOf]; omega
    · obtain rfl : j = K := by omega
      clear hin
      go_wp2
      have HB1 : Hid (At w2.heap.size w2 wr cb j m ((0 - (j - m) : Nat) : Int) (lastE m j) bm) := Lib.hid (by rw [Nat.zero_sub]; exact HA.out)
      clear HA
      obtain ⟨wo, rfl⟩ : ∃ wo : World, wo = wr := ⟨_, rfl⟩
      go_loopw [9] (fun v9 ws => ∃ i : Nat, i ≤ j ∧ v9 = .int .i64 i ∧ Hid (At w2.heap.size w2 ws cb j m ((i - (j - m) : Nat) : Int) (lastE m j) bm)) (fun i _ => j - (intOf i).toNat)
      case atStart => exact ⟨0, Nat.zero_le _, rfl, HB1⟩
      case round =>
        obtain ⟨i, hi, rfl, HC⟩ := hrel
        by_cases hin : i < j
        · have hds := dig_size i (by omega)
          by_cases h : (j : Int) - m ≤ i
          · have T2 : Hid True := trivial
            go_wp2_with (first
              | (clear T2; go_at_call 17; refine (dig_at HC.out i (by omega)).mono ?_; rintro e w4 ⟨rfl, hA⟩; have A1 := Lib.hid hA; clear hA)
              | (go_at_call 19; refine (get_yes A1.out (by omega) hin h).mono ?_; rintro e w5 ⟨rfl, hA⟩; have A2 := Lib.hid hA; clear hA)
              | (go_at_call 17; refine (dig_at A2.out i (by omega)).mono ?_; rintro e w6 ⟨rfl, hA⟩; have A3 := Lib.hid hA; clear hA))
            go_roundw
            case rel => exact ⟨i + 1, by omega, by go_num, A3⟩
            case measure => simp [intOf]; omega
          · have h : (i : Int) < (j : Int) - m := by omega
            go_wp2_with (first
              | (go_at_call 17; refine (dig_at HC.out i (by omega)).mono ?_; rintro e w4 ⟨rfl, hA⟩; have A1 := Lib.hid hA; clear hA)
              | (go_at_call 19; refine (get_no A1.out (by omega) hin h).mono ?_; rintro e w5 ⟨rfl, hA⟩; have A2 := Lib.hid hA; clear hA))
            go_roundw
            case rel => exact ⟨i + 1, by omega, by go_num, A2⟩
            case measure => simp [intOf]; omega
        · obtain rfl : i = j := by omega
          clear hin
          go_wp2_with (first
            | (go_at_call 20; refine (len_old HC.out).mono ?_; rintro e w4 ⟨rfl, rfl⟩)
            | (go_at_call 21; refine (hits_old HC.out).mono ?_; rintro e w5 ⟨rfl, rfl⟩)
            | (go_at_call 14; refine (awake_at HC.out).mono ?_; rintro e w6 ⟨rfl, hA⟩; have A4 := Lib.hid hA; clear hA))
          go_ret
          exact ⟨rfl, H2.out.trans (A4.out.2.mono H2.out.size)⟩
end Go.Proofs.Ytabdjijlmiobhaa.G
