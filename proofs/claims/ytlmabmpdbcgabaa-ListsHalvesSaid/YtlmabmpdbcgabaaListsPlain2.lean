/- lists: what the printed functions answer, as plain lists. -/
import Derived.Test.YtlmabmpdbcgabaaListsPlain
namespace Go.Proofs.Ytlmabmpdbcgabaa.G
open Go.RowKit Go.Sort Go.Proofs.Ytlmabmpdbcgabaa.P Go.Proofs.YtlmabmpdbcgabaaW.PrintWords Go.Proofs.Ytlmabmpdbcgabaa.Pure

theorem rd_at {l : List ByteArray} {i : Nat} {s : ByteArray} (h : l[i]? = some s) : rdOf ByteArray.empty l (i : Int) = s := by
  unfold rdOf
  rw [Int.toNat_natCast, List.getD_eq_getElem?_getD, h]; rfl
theorem up1 (i : Nat) (h : i ≤ 1000000) : wrap64 ((i : Int) + 1) = ((i + 1 : Nat) : Int) := by unfold wrap64; omega
theorem drop_at {l : List ByteArray} {i : Nat} {s : ByteArray} (h : l[i]? = some s) : l.drop i = s :: l.drop (i + 1) := by
  obtain ⟨hk, he⟩ := List.getElem?_eq_some_iff.mp h
  rw [List.drop_eq_getElem_cons hk, he]
theorem get_lt {l : List ByteArray} {i : Nat} (h : i < l.length) : ∃ s, l[i]? = some s := ⟨_, List.getElem?_eq_getElem h⟩

/-! ### Each -/
def eachB (a b : ByteArray) (l : List ByteArray) : List ByteArray := l.map (fun s => (a ++ s) ++ b)
def Small (l : List ByteArray) : Prop := l.length ≤ 1000 ∧ ∀ s ∈ l, s.size ≤ 1000
theorem each_l0 (a b : ByteArray) (l : List ByteArray) (ha : a.size ≤ 1000) (hb : b.size ≤ 1000) (hl : Small l) : ∀ (d k i : Nat) (acc : List ByteArray), i + d = l.length → d < k → acc.length ≤ i →
    lists_Each.l0 k a b acc l (l.length : Int) (i : Int) = some (acc ++ eachB a b (l.drop i)) ∧ wainwrightref05_Each.l0 k l a b acc (i : Int) = some (acc ++ eachB a b (l.drop i)) := by
  intro d
  induction d with
  | zero =>
    intro k i acc h1 h2 h3
    obtain ⟨k, rfl⟩ : ∃ m, k = m + 1 := ⟨k - 1, by omega⟩
    unfold lists_Each.l0 wainwrightref05_Each.l0
    rw [if_neg (by omega), if_neg (by omega), List.drop_eq_nil_of_le (by omega)]
    simp [eachB]
  | succ d ih =>
    intro k i acc h1 h2 h3
    obtain ⟨k, rfl⟩ : ∃ m, k = m + 1 := ⟨k - 1, by omega⟩
    obtain ⟨s, hs⟩ := get_lt (l := l) (i := i) (by omega)
    have hz := hl.2 s (List.mem_of_getElem? hs)
    have hlen := hl.1
    obtain ⟨g1, g2⟩ := ih k (i + 1) (acc ++ [(a ++ s) ++ b]) (by omega) (by omega) (by simp; omega)
    have has : (a ++ s).size = a.size + s.size := by simp
    have hu := up1 i (by omega)
    have c1 : (i : Int) < (l.length : Int) := by omega
    have c2 : (0 : Int) ≤ (i : Int) := by omega
    have c3 : a.size + s.size ≤ 9223372036854775807 := by omega
    have c4 : (a ++ s).size + b.size ≤ 9223372036854775807 := by omega
    have c5 : acc.length < 8796093022208 := by omega
    have hd := drop_at hs
    refine ⟨?_, ?_⟩
    · unfold lists_Each.l0
      rw [rd_at hs, hu, if_pos c1, if_pos c2, if_pos c1, if_pos c3, if_pos c4, if_pos c5, g1, hd]
      simp [eachB]
    · unfold wainwrightref05_Each.l0
      rw [rd_at hs, hu, if_pos c1, if_pos c2, if_pos c3, if_pos c4, if_pos c5, g2, hd]
      simp [eachB]
theorem each_is (a b : ByteArray) (l : List ByteArray) (ha : a.size ≤ 1000) (hb : b.size ≤ 1000) (hl : Small l) (k : Nat) (hk : 2000 ≤ k) : lists_Each.f k l a b = some (eachB a b l) ∧ wainwrightref05_Each.f k l a b = some (eachB a b l) := by
  have := hl.1
  exact each_l0 a b l ha hb hl l.length k 0 [] (by omega) (by omega) (Nat.le_refl _)

/-! ### Slice -/
def cutB (fr tt : Int) : Nat → List ByteArray → List ByteArray
  | _, [] => []
  | i, s :: r => if fr ≤ (i : Int) + 1 ∧ (i : Int) + 1 ≤ tt then s :: cutB fr tt (i + 1) r else cutB fr tt (i + 1) r
theorem slice_l0 (f t : Int) (l : List ByteArray) (hl : l.length ≤ 1000) : ∀ (d k i : Nat) (acc : List ByteArray), i + d = l.length → d < k → acc.length ≤ i →
    wainwrightref05_Slice.l0 k l f t acc (i : Int) = some (acc ++ cutB f t i (l.drop i)) := by
  intro d
  induction d with
  | zero =>
    intro k i acc h1 h2 h3
    obtain ⟨k, rfl⟩ : ∃ m, k = m + 1 := ⟨k - 1, by omega⟩
    unfold wainwrightref05_Slice.l0
    rw [if_neg (by omega), List.drop_eq_nil_of_le (by omega)]
    simp [cutB]
  | succ d ih =>
    intro k i acc h1 h2 h3
    obtain ⟨k, rfl⟩ : ∃ m, k = m + 1 := ⟨k - 1, by omega⟩
    obtain ⟨s, hs⟩ := get_lt (l := l) (i := i) (by omega)
    have g1 := ih k (i + 1) (acc ++ [s]) (by omega) (by omega) (by simp; omega)
    have g2 := ih k (i + 1) acc (by omega) (by omega) (by omega)
    unfold wainwrightref05_Slice.l0
    rw [rd_at hs, up1 i (by omega), if_pos (show (i : Int) < (l.length : Int) by omega), drop_at hs]
    by_cases hf : f ≤ (i : Int) + 1
    · rw [if_pos (show ((i + 1 : Nat) : Int) ≥ f by omega)]
      by_cases ht : (i : Int) + 1 ≤ t
      · rw [if_pos (show ((i + 1 : Nat) : Int) ≤ t by omega), if_pos (show (0 : Int) ≤ (i : Int) by omega), if_pos (show acc.length < 8796093022208 by omega), g1]
        simp only [cutB]
        rw [if_pos ⟨hf, ht⟩]; simp
      · rw [if_neg (show ¬ ((i + 1 : Nat) : Int) ≤ t by omega), g2]
        simp only [cutB]
        rw [if_neg (fun h => ht h.2)]
    · rw [if_neg (show ¬ ((i + 1 : Nat) : Int) ≥ f by omega), g2]
      simp only [cutB]
      rw [if_neg (fun h => hf h.1)]
theorem slice_is (f t : Int) (l : List ByteArray) (hl : l.length ≤ 1000) (k : Nat) (hk : 2000 ≤ k) : wainwrightref05_Slice.f k l f t = some (cutB f t 0 l) := by
  exact slice_l0 f t l hl l.length k 0 [] (by omega) (by omega) (Nat.le_refl _)
theorem cut_none (f t : Int) : ∀ (l : List ByteArray) (i : Nat), t ≤ (i : Int) → cutB f t i l = []
  | [], _, _ => rfl
  | s :: r, i, h => by
    simp only [cutB]
    rw [if_neg (by omega)]
    exact cut_none f t r (i + 1) (by omega)
theorem cut_is (f t : Int) : ∀ (l : List ByteArray) (i : Nat), cutB f t i l = (l.take (t - i).toNat).drop (f - 1 - i).toNat
  | [], i => by simp [cutB]
  | s :: r, i => by
    simp only [cutB]
    by_cases ht : (i : Int) + 1 ≤ t
    · have e1 : (t - (i : Int)).toNat = (t - ((i + 1 : Nat) : Int)).toNat + 1 := by omega
      rw [e1, List.take_succ_cons]
      by_cases hf : f ≤ (i : Int) + 1
      · rw [if_pos ⟨hf, ht⟩, cut_is f t r (i + 1)]
        have e2 : (f - 1 - (i : Int)).toNat = 0 := by omega
        have e3 : (f - 1 - ((i + 1 : Nat) : Int)).toNat = 0 := by omega
        rw [e2, e3]; simp
      · rw [if_neg (fun h => hf h.1), cut_is f t r (i + 1)]
        have e2 : (f - 1 - (i : Int)).toNat = (f - 1 - ((i + 1 : Nat) : Int)).toNat + 1 := by omega
        rw [e2, List.drop_succ_cons]
    · rw [if_neg (fun h => ht h.2), cut_none f t r (i + 1) (by omega)]
      have e1 : (t - (i : Int)).toNat = 0 := by omega
      rw [e1]; simp

/-! ### Pairs -/
def atB (l : List ByteArray) (i : Nat) : ByteArray := l.getD i ByteArray.empty
def pairsB (a b : List ByteArray) (i n : Nat) : List ByteArray := (List.range' i n).map (fun j => atB a j ++ atB b j)
theorem at_is (l : List ByteArray) (i : Nat) : lists_at.f l (i : Int) = some (atB l i) := by
  unfold lists_at.f atB
  by_cases h : i < l.length
  · obtain ⟨s, hs⟩ := get_lt h
    rw [if_pos (by omega), if_pos (by omega), rd_at hs, List.getD_eq_getElem?_getD, hs]; rfl
  · rw [if_neg (by omega), List.getD_eq_getElem?_getD, List.getElem?_eq_none (by omega)]; rfl
theorem at_size {l : List ByteArray} (hl : Small l) (i : Nat) : (atB l i).size ≤ 1000 := by
  unfold atB
  by_cases h : i < l.length
  · obtain ⟨s, hs⟩ := get_lt h
    rw [List.getD_eq_getElem?_getD, hs]; exact hl.2 s (List.mem_of_getElem? hs)
  · rw [List.getD_eq_getElem?_getD, List.getElem?_eq_none (by omega)]; simp
theorem at_lt {l : List ByteArray} {i : Nat} (_h : i < l.length) : rdOf ByteArray.empty l (i : Int) = atB l i := by
  unfold rdOf atB; rw [Int.toNat_natCast]
theorem at_ge {l : List ByteArray} {i : Nat} (h : ¬ i < l.length) : atB l i = ByteArray.empty := by
  unfold atB; rw [List.getD_eq_getElem?_getD, List.getElem?_eq_none (by omega)]; rfl
theorem pairs_step (a b : List ByteArray) (i d : Nat) : pairsB a b i (d + 1) = (atB a i ++ atB b i) :: pairsB a b (i + 1) d := by
  unfold pairsB; rw [List.range'_succ, List.map_cons]
theorem pairs_l0 (a b : List ByteArray) (ha : Small a) (hb : Small b) (M : Nat) (hM : M = max a.length b.length) : ∀ (d k i : Nat) (acc : List ByteArray), i + d = M → 2 * d + 1 < k → acc.length ≤ i →
    lists_Pairs.l0 k a b acc (M : Int) (i : Int) = some (acc ++ pairsB a b i d) ∧ wainwrightref05_Pairs.l0 k a b acc (i : Int) = some (acc ++ pairsB a b i d) := by
  intro d
  have h1a := ha.1
  have h1b := hb.1
  induction d with
  | zero =>
    intro k i acc h1 h2 h3
    obtain ⟨k, rfl⟩ : ∃ m, k = m + 2 := ⟨k - 2, by omega⟩
    unfold lists_Pairs.l0 wainwrightref05_Pairs.l0
    rw [if_neg (by omega), if_neg (by omega), decide_eq_false (by omega)]
    unfold wainwrightref05_Pairs.j1
    rw [if_neg (by decide)]
    simp [pairsB]
  | succ d ih =>
    intro k i acc h1 h2 h3
    obtain ⟨k, rfl⟩ : ∃ m, k = m + 2 := ⟨k - 2, by omega⟩
    obtain ⟨g1, _⟩ := ih (k + 1) (i + 1) (acc ++ [atB a i ++ atB b i]) (by omega) (by omega) (by simp; omega)
    obtain ⟨_, g2⟩ := ih k (i + 1) (acc ++ [atB a i ++ atB b i]) (by omega) (by omega) (by simp; omega)
    have za := at_size ha i
    have zb := at_size hb i
    have hu := up1 i (by omega)
    rw [pairs_step]
    have hat := at_is a i
    have hbt := at_is b i
    have ra : i < a.length → rdOf ByteArray.empty a (i : Int) = atB a i := at_lt
    have rb : i < b.length → rdOf ByteArray.empty b (i : Int) = atB b i := at_lt
    have ea : ¬ i < a.length → atB a i = ByteArray.empty := at_ge
    have eb : ¬ i < b.length → atB b i = ByteArray.empty := at_ge
    generalize atB a i = x at za hat ra ea g1 g2 ⊢
    generalize atB b i = y at zb hbt rb eb g1 g2 ⊢
    have c3 : x.size + y.size ≤ 9223372036854775807 := by omega
    have c4 : 0 + y.size ≤ 9223372036854775807 := by omega
    have c5 : acc.length < 8796093022208 := by omega
    have c0 : (0 : Int) ≤ (i : Int) := by omega
    have c6 : (i : Int) < (M : Int) := by omega
    refine ⟨?_, ?_⟩
    · unfold lists_Pairs.l0
      rw [if_pos c6, hat, hbt]
      simp only [Option.bind_some]
      rw [if_pos c3, if_pos c5, hu, g1]; simp
    · unfold wainwrightref05_Pairs.l0
      have hj : (if (i : Int) < (a.length : Int) then wainwrightref05_Pairs.j1 (k + 1) a b acc (i : Int) true else wainwrightref05_Pairs.j1 (k + 1) a b acc (i : Int) (decide ((i : Int) < (b.length : Int)))) = wainwrightref05_Pairs.j1 (k + 1) a b acc (i : Int) true := by
        by_cases hai : (i : Int) < (a.length : Int)
        · rw [if_pos hai]
        · rw [if_neg hai, decide_eq_true (by omega)]
      rw [hj]
      unfold wainwrightref05_Pairs.j1
      rw [if_pos rfl]
      by_cases hai : i < a.length
      · have ca : (i : Int) < (a.length : Int) := by omega
        rw [if_pos ca, if_pos c0, ra hai]
        by_cases hbi : i < b.length
        · have cb : (i : Int) < (b.length : Int) := by omega
          rw [if_pos cb, rb hbi, if_pos c3, if_pos c5, hu, g2]; simp
        · have cb : ¬ (i : Int) < (b.length : Int) := by omega
          have e : x ++ y = x := by rw [eb hbi]; simp
          rw [if_neg cb, if_pos c5, hu]
          rw [e] at g2 ⊢
          rw [g2]; simp
      · have hbi : i < b.length := by omega
        have ca : ¬ (i : Int) < (a.length : Int) := by omega
        have cb : (i : Int) < (b.length : Int) := by omega
        have e : (⟨#[]⟩ : ByteArray) ++ y = x ++ y := by rw [ea hai]; rfl
        rw [if_neg ca, if_pos cb, if_pos c0, rb hbi, if_pos c4, if_pos c5, hu, e, g2]; simp
def pairs (a b : List ByteArray) : List ByteArray := pairsB a b 0 (max a.length b.length)
theorem pairs_is (a b : List ByteArray) (ha : Small a) (hb : Small b) (k : Nat) (hk : 3000 ≤ k) : lists_Pairs.f k a b = some (pairs a b) ∧ wainwrightref05_Pairs.f k a b = some (pairs a b) := by
  have h1a := ha.1
  have h1b := hb.1
  have h := pairs_l0 a b ha hb _ rfl (max a.length b.length) k 0 [] (by omega) (by omega) (Nat.le_refl _)
  unfold lists_Pairs.f wainwrightref05_Pairs.f pairs
  have e : mx (a.length : Int) (b.length : Int) = ((max a.length b.length : Nat) : Int) := by unfold mx; split <;> omega
  rw [e]
  exact h

/-! ### Same -/
theorem same_l0 (a b : List ByteArray) (hl : a.length ≤ 1000000) (h : a = b) : ∀ (d k i : Nat), i + d = a.length → d < k → wainwrightref01_Same.l0 k a b (i : Int) = some true := by
  subst h
  intro d
  induction d with
  | zero =>
    intro k i h1 h2
    obtain ⟨k, rfl⟩ : ∃ m, k = m + 1 := ⟨k - 1, by omega⟩
    unfold wainwrightref01_Same.l0
    rw [if_neg (by omega)]
  | succ d ih =>
    intro k i h1 h2
    obtain ⟨k, rfl⟩ : ∃ m, k = m + 1 := ⟨k - 1, by omega⟩
    unfold wainwrightref01_Same.l0
    rw [if_pos (by omega), if_pos (by omega), if_pos (by omega), if_pos rfl, up1 i (by omega)]
    exact ih k (i + 1) (by omega) (by omega)
theorem same_is (a : List ByteArray) (hl : a.length ≤ 1000000) : wainwrightref01_Same.f (a.length + 1) a a = some true := by
  unfold wainwrightref01_Same.f
  rw [if_pos rfl]
  exact same_l0 a a hl rfl a.length (a.length + 1) 0 (by omega) (by omega)
theorem same_calls (w : World) (A0 A1 : Option Addr) (c0 c1 : Nat) (a : List ByteArray) (h0 : Strs w A0 a) (h1 : Strs w A1 a) (hc0 : a.length ≤ c0) (hc1 : a.length ≤ c1) (hl : a.length ≤ 1000000) :
    Calls Try.prog 9 #[.slice A0 a.length c0, .slice A1 a.length c1] w fun e w' => e = .returned (.bool true) ∧ Below w.heap.size w w' := by
  refine (wainwrightref01_Same.calls (a.length + 1) A0 c0 a A1 c1 a true w h0 hc0 h1 hc1 (same_is a hl)).mono ?_
  rintro e w' ⟨rfl, nd, rfl⟩
  exact ⟨rfl, rfl, rfl, rfl, Nat.le_refl _, fun _ _ => rfl⟩
end Go.Proofs.Ytlmabmpdbcgabaa.G
