/- wainwrightlaw03.GlobStars answers true at every two numbers and list: a pattern of a, ? and * matches so many a as it asks for. No condition. -/
import Derived.Test.YtpoekljclapbfaaGlobEnd
import Derived.Test.YtpoekljclapbfaaPx11
namespace Go.Proofs.Ytpoekljclapbfaa.Pure
open Go.RowKit Go.Proofs.Ytpoekljclapbfaa.P Go.Proofs.Ytpoekljclapbfaa.G Go.Proofs.Ytpoekljclapbfaa.P0 Go.Proofs.YtpoekljclapbfaaW.PrintWords Go.Proofs.YtpoekljclapbfaaW.PrintLast

def hasStar (t : List Tok) : Bool := t.any Tok.isStar
def hasAny (t : List Tok) : Bool := t.any Tok.isAny
def cnt : List Tok → Nat
  | [] => 0
  | .star :: t => cnt t
  | _ :: t => cnt t + 1
theorem cnt_app (t u : List Tok) : cnt (t ++ u) = cnt t + cnt u := by
  induction t with
  | nil => simp [cnt]
  | cons x t ih => cases x <;> simp [cnt, ih] <;> omega

/-- Does each part take an a? -/
def takesA (t : List Tok) : Prop := ∀ x ∈ t, x.isStar = true ∨ x.ok 97 = true

theorem mat_as (t : List Tok) (h : takesA t) : ∀ m, mat t (List.replicate m 97) = if hasStar t then decide (cnt t ≤ m) else decide (cnt t = m) := by
  induction t with
  | nil => intro m; cases m <;> simp [mat, cnt, hasStar, List.replicate]
  | cons x t ih =>
    have ih := ih (fun y hy => h y (List.mem_cons_of_mem _ hy))
    intro m
    cases hx : x.isStar with
    | true =>
      obtain rfl : x = .star := by cases x <;> first | rfl | exact Bool.noConfusion hx
      have hstar : ∀ m, anySuf (mat t) (List.replicate m 97) = decide (cnt t ≤ m) := by
        intro m
        induction m with
        | zero =>
          have := ih 0
          simp only [List.replicate] at this
          simp only [List.replicate, anySuf]
          rw [this]
          split
          · rfl
          · exact decide_eq_decide.mpr (by omega)
        | succ m ihm =>
          rw [List.replicate_succ]
          simp only [anySuf]
          rw [ihm, ← List.replicate_succ, ih (m + 1)]
          split
          · rw [← Bool.decide_or]; exact decide_eq_decide.mpr (by omega)
          · rw [← Bool.decide_or]; exact decide_eq_decide.mpr (by omega)
      exact hstar m
    | false =>
      have ho := (h x (by simp)).resolve_left (by rw [hx]; decide)
      have hc : cnt (x :: t) = cnt t + 1 := by cases x <;> first | rfl | exact Bool.noConfusion hx
      have hh : hasStar (x :: t) = hasStar t := by simp [hasStar, hx]
      rw [mat_one hx, hc, hh]
      cases m with
      | zero => simp
      | succ m =>
        rw [List.replicate_succ]
        simp only [ho, ih m, Bool.true_and]
        split
        · exact decide_eq_decide.mpr (by omega)
        · exact decide_eq_decide.mpr (by omega)

theorem magic_cond (t : List Tok) : t.any (fun t => t.isStar || t.isAny) = (hasStar t || hasAny t) := by
  induction t with
  | nil => rfl
  | cons x t ih =>
    show ((x.isStar || x.isAny) || t.any (fun t => t.isStar || t.isAny)) = ((x.isStar || hasStar t) || (x.isAny || hasAny t))
    rw [ih]
    cases x.isStar <;> cases x.isAny <;> simp

/-- What is known of the pattern behind so many parts. -/
structure Made (s : ByteArray) (t : List Tok) (b : Bool) (i : Nat) : Prop where
  toks : Toks s.data.toList t
  star : hasStar t = b
  any : hasAny t = decide (1 < i)
  cnt : cnt t = i
  takes : takesA t
  size : s.size ≤ 2 * i + 1

theorem add_star {s : ByteArray} {t : List Tok} {i : Nat} {b : Bool} (h : Made s t b i) (hs : s.size ≤ 2 * i) : Made (s ++ ⟨#[42]⟩) (t ++ [.star]) true i where
  toks := by rw [show (s ++ (⟨#[42]⟩ : ByteArray)).data.toList = s.data.toList ++ [42] by simp]; exact toks_app h.toks (.star .nil)
  star := by simp [hasStar, Tok.isStar]
  any := by rw [← h.any]; simp [hasAny, Tok.isAny]
  cnt := by rw [cnt_app, h.cnt]; rfl
  takes := by
    intro x hx
    rcases List.mem_append.mp hx with hx | hx
    · exact h.takes x hx
    · simp at hx; rw [hx]; exact Or.inl rfl
  size := by rw [ByteArray.size_append, show (⟨#[42]⟩ : ByteArray).size = 1 from rfl]; omega

def aq (i : Nat) : ByteArray := rdOf ByteArray.empty ([(⟨#[97]⟩ : ByteArray), (⟨#[63]⟩ : ByteArray)] : List ByteArray) (Int.tmod (i : Int) 2)
def aqT (i : Nat) : Tok := if i % 2 = 0 then .lit 97 else .any

theorem aq_is (i : Nat) : (aq i).data.toList = [if i % 2 = 0 then 97 else 63] ∧ (aq i).size = 1 := by
  unfold aq
  have e : Int.tmod (i : Int) 2 = ((i % 2 : Nat) : Int) := rfl
  rw [e]
  rcases Nat.mod_two_eq_zero_or_one i with h | h <;> rw [h] <;> exact ⟨rfl, rfl⟩

theorem add_part {s : ByteArray} {t : List Tok} {i : Nat} {b : Bool} (h : Made s t b i) : Made (s ++ aq i) (t ++ [aqT i]) b (i + 1) where
  toks := by
    rw [show (s ++ aq i).data.toList = s.data.toList ++ (aq i).data.toList by simp, (aq_is i).1]
    refine toks_app h.toks ?_
    unfold aqT
    rcases Nat.mod_two_eq_zero_or_one i with e | e
    · rw [if_pos e, if_pos e]; exact .lit (by decide) (by decide) (by decide) (by decide) .nil
    · rw [if_neg (by omega), if_neg (by omega)]; exact .any .nil
  star := by
    rw [← h.star]
    unfold aqT
    rcases Nat.mod_two_eq_zero_or_one i with e | e
    · simp [hasStar, e, Tok.isStar]
    · simp [hasStar, e, Tok.isStar]
  any := by
    have h1 := h.any
    simp only [hasAny, List.any_append] at h1 ⊢
    rw [h1]
    unfold aqT
    rcases Nat.mod_two_eq_zero_or_one i with e | e
    · rw [if_pos e]
      simp only [List.any_cons, List.any_nil, Tok.isAny, Bool.or_false]
      exact decide_eq_decide.mpr (by omega)
    · rw [if_neg (by omega)]
      simp only [List.any_cons, List.any_nil, Tok.isAny, Bool.or_false, Bool.or_true]
      exact (decide_eq_true (by omega)).symm
  cnt := by
    rw [cnt_app, h.cnt]
    unfold aqT
    split <;> rfl
  takes := by
    intro x hx
    rcases List.mem_append.mp hx with hx | hx
    · exact h.takes x hx
    · simp at hx; rw [hx]; right; unfold aqT; split <;> rfl
  size := by have := h.size; rw [ByteArray.size_append, (aq_is i).2]; omega

theorem as_l1 (n m : Nat) (hn : n < 15) (hm : m < 20) (s : ByteArray) (t : List Tok) (b : Bool) (h : Made s t b n) :
    ∀ (d i : Nat) (u : ByteArray), i + d = m → u.data.toList = List.replicate i 97 → ∃ k, wainwrightlaw03_GlobStars.l1 k (n : Int) (m : Int) s u b (i : Int) = some true := by
  intro d
  induction d with
  | zero =>
    intro i u hi hu
    obtain rfl : i = m := by omega
    obtain ⟨K1, m1⟩ := match_is s u t h.toks (by rw [hu]; cases i <;> simp [List.replicate])
    obtain ⟨K2, m2⟩ := magic_is s t h.toks
    refine ⟨K1 + K2 + 41, ?_⟩
    simp only [wainwrightlaw03_GlobStars.l1]
    rw [if_neg (by omega), m1 _ (by omega), m2 _ (by omega), magic_cond, h.star, h.any, hu, mat_as t h.takes, h.star, h.cnt,
      up (f := wainwrightlaw03_awake.f) (fun k => wainwrightlaw03_awake.mono k) awake_40 _ (by omega)]
    simp only [Option.bind_some]
    have e1 : decide ((n : Int) > 1) = decide (1 < n) := decide_eq_decide.mpr (by omega)
    rw [e1]
    rcases Nat.lt_trichotomy n i with hh | hh | hh
    · rw [if_neg (by omega), if_pos (by omega)]
      have a1 : decide (n ≤ i) = true := decide_eq_true (by omega)
      have a2 : decide (n = i) = false := decide_eq_false (by omega)
      rw [a1, a2]
      cases b <;> simp
    · rw [if_pos (by omega)]
      have a1 : decide (n ≤ i) = true := decide_eq_true (by omega)
      have a2 : decide (n = i) = true := decide_eq_true (by omega)
      rw [a1, a2]
      cases b <;> simp
    · rw [if_neg (by omega), if_neg (by omega)]
      have a1 : decide (n ≤ i) = false := decide_eq_false (by omega)
      have a2 : decide (n = i) = false := decide_eq_false (by omega)
      rw [a1, a2]
      cases b <;> simp
  | succ d ih =>
    intro i u hi hu
    have hw : wrap64 ((i : Int) + 1) = ((i + 1 : Nat) : Int) := by unfold wrap64; omega
    have hz : u.size = i := by rw [show u.size = u.data.toList.length from rfl, hu]; simp
    obtain ⟨k, hk⟩ := ih (i + 1) (u ++ ⟨#[97]⟩) (by omega) (by
      rw [show (u ++ (⟨#[97]⟩ : ByteArray)).data.toList = u.data.toList ++ [97] by simp, hu, List.replicate_succ']) 
    refine ⟨k + 1, ?_⟩
    simp only [wainwrightlaw03_GlobStars.l1]
    rw [if_pos (by omega), if_pos (by omega), hw]
    exact hk

theorem as_j2 (n m : Nat) (hn : n < 15) (hm : m < 20) (s : ByteArray) (t : List Tok) (b : Bool) (h : Made s t b n) :
    ∃ k, wainwrightlaw03_GlobStars.j2 k (n : Int) (m : Int) s ⟨#[]⟩ b = some true := by
  obtain ⟨k, hk⟩ := as_l1 n m hn hm s t b h m 0 ⟨#[]⟩ (by omega) rfl
  exact ⟨k + 1, hk⟩

theorem as_j1 (n m : Nat) (hn : n < 15) (hm : m < 20) (s : ByteArray) (t : List Tok) (b : Bool) (h : Made s t b n) (hs : s.size ≤ 2 * n) (c : Bool) :
    ∃ k, wainwrightlaw03_GlobStars.j1 k (n : Int) (m : Int) s ⟨#[]⟩ b c = some true := by
  cases c with
  | false =>
    obtain ⟨k, hk⟩ := as_j2 n m hn hm s t b h
    refine ⟨k + 1, ?_⟩
    simp only [wainwrightlaw03_GlobStars.j1]
    rw [if_neg (by decide)]
    exact hk
  | true =>
    obtain ⟨k, hk⟩ := as_j2 n m hn hm _ _ _ (add_star h hs)
    refine ⟨k + 1, ?_⟩
    simp only [wainwrightlaw03_GlobStars.j1]
    rw [if_pos trivial, if_pos (by omega)]
    exact hk

theorem as_l0 (z : List Int) (n m : Nat) (hn : n < 15) (hm : m < 20) : ∀ (d i : Nat) (s : ByteArray) (t : List Tok) (b : Bool), i + d = n → Made s t b i → s.size ≤ 2 * i →
    ∃ k, wainwrightlaw03_GlobStars.l0 k z (n : Int) (m : Int) s ⟨#[]⟩ b (i : Int) = some true := by
  intro d
  induction d with
  | zero =>
    intro i s t b hi h hs
    obtain rfl : i = n := by omega
    obtain ⟨q, hq, _⟩ := place (rd z (i : Int)) 2 (by decide) (by decide)
    obtain ⟨k1, h1⟩ := as_j1 i m hn hm s t b h hs (q == 0)
    obtain ⟨k2, h2⟩ := as_j1 i m hn hm s t b h hs false
    by_cases hl : (i : Int) < (z.length : Int)
    · refine ⟨k1 + 1, ?_⟩
      simp only [wainwrightlaw03_GlobStars.l0]
      rw [if_neg (by omega), if_pos hl, if_pos (by omega), hq]
      exact h1
    · refine ⟨k2 + 1, ?_⟩
      simp only [wainwrightlaw03_GlobStars.l0]
      rw [if_neg (by omega), if_neg hl]
      exact h2
  | succ d ih =>
    intro i s t b hi h hs
    have hw : wrap64 ((i : Int) + 1) = ((i + 1 : Nat) : Int) := by unfold wrap64; omega
    have hme : Int.tmod (i : Int) 2 = ((i % 2 : Nat) : Int) := rfl
    have hm0 : 0 ≤ Int.tmod (i : Int) 2 := by omega
    have hm1 : Int.tmod (i : Int) 2 < 2 := by omega
    have hz := (aq_is i).2
    obtain ⟨q, hq, _⟩ := place (rd z (i : Int)) 2 (by decide) (by decide)
    obtain ⟨k1, h1⟩ := ih (i + 1) _ _ _ (by omega) (add_part h) (by rw [ByteArray.size_append, hz]; omega)
    obtain ⟨k2, h2⟩ := ih (i + 1) _ _ _ (by omega) (add_part (add_star h hs)) (by rw [ByteArray.size_append, ByteArray.size_append, hz, show (⟨#[42]⟩ : ByteArray).size = 1 from rfl]; omega)
    have goOn : ∀ k, wainwrightlaw03_GlobStars.l0 k z (n : Int) (m : Int) (s ++ aq i) ⟨#[]⟩ b ((i + 1 : Nat) : Int) = some true → (if 0 ≤ (Int.tmod (i : Int) 2) then (if (Int.tmod (i : Int) 2) < 2 then (if s.size + (aq i).size ≤ 9223372036854775807 then (wainwrightlaw03_GlobStars.l0 k z (n : Int) (m : Int) (s ++ aq i) ⟨#[]⟩ b (wrap64 ((i : Int) + 1))) else none) else none) else none) = some true := by
      intro k hk
      rw [if_pos hm0, if_pos hm1, if_pos (by omega), hw]
      exact hk
    by_cases hl : (i : Int) < (z.length : Int)
    · by_cases hq0 : q = 0
      · refine ⟨k2 + 1, ?_⟩
        simp only [wainwrightlaw03_GlobStars.l0]
        rw [if_pos (by omega), if_pos hl, if_pos (by omega), hq]
        simp only [Option.bind_some]
        have hz2 : (s ++ (⟨#[42]⟩ : ByteArray)).size = s.size + 1 := by rw [ByteArray.size_append]; rfl
        rw [if_pos hq0, if_pos (by omega), if_pos hm0, if_pos hm1, hw]
        exact (if_pos (show (s ++ (⟨#[42]⟩ : ByteArray)).size + (aq i).size ≤ 9223372036854775807 by omega)).trans h2
      · refine ⟨k1 + 1, ?_⟩
        simp only [wainwrightlaw03_GlobStars.l0]
        rw [if_pos (by omega), if_pos hl, if_pos (by omega), hq]
        simp only [Option.bind_some]
        rw [if_neg hq0]
        exact goOn k1 h1
    · refine ⟨k1 + 1, ?_⟩
      simp only [wainwrightlaw03_GlobStars.l0]
      rw [if_pos (by omega), if_neg hl]
      exact goOn k1 h1

theorem GlobStars : wainwrightlaw03_GlobStars.Pure := by
  intro a0 a1 z _ _ _ _ _
  obtain ⟨x, hx, x0, x1⟩ := place a0 15 (by decide) (by decide)
  obtain ⟨y, hy, y0, y1⟩ := place a1 20 (by decide) (by decide)
  obtain ⟨n, rfl⟩ : ∃ n : Nat, x = n := ⟨x.toNat, by omega⟩
  obtain ⟨m, rfl⟩ : ∃ n : Nat, y = n := ⟨y.toNat, by omega⟩
  obtain ⟨k, hk⟩ := as_l0 z n m (by omega) (by omega) n 0 ⟨#[]⟩ [] false (by omega)
    { toks := .nil, star := rfl, any := rfl, cnt := rfl, takes := by intro x hx; simp at hx, size := by decide } (Nat.zero_le _)
  refine ⟨k, ?_⟩
  unfold wainwrightlaw03_GlobStars.f
  rw [hx, hy]
  exact hk
end Go.Proofs.Ytpoekljclapbfaa.Pure
