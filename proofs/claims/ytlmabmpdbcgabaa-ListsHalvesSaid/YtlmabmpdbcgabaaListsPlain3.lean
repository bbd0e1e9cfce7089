/- lists: the reference's Filter answers what lists.Filter answers; small lists. -/
import Derived.Test.YtlmabmpdbcgabaaListsPlain2
namespace Go.Proofs.Ytlmabmpdbcgabaa.G
open Go.RowKit Go.Sort Go.Proofs.Ytlmabmpdbcgabaa.P Go.Proofs.YtlmabmpdbcgabaaW.PrintWords Go.Proofs.Ytlmabmpdbcgabaa.Pure

abbrev SP := S51
def patS (p : Pat) : SP := ⟨p.1, p.2.1, p.2.2⟩
theorem rd_pat {ps : List Pat} {i : Nat} {p : Pat} (h : ps[i]? = some p) : rd_T51 (ps.map patS) (i : Int) = patS p := by
  unfold rd_T51
  rw [Int.toNat_natCast, List.getD_eq_getElem?_getD, List.getElem?_map, h]; rfl
theorem match_ref (p : Pat) (s : ByteArray) (hp : GoodP p) (hs : s.size ≤ 1000) : ∃ m, wainwrightref02_Match.f p.1 p.2.1 p.2.2 s = some m ∧ m.2 = fitsP p s := by
  obtain ⟨m, hm, _⟩ := match_some p.1 p.2.1 p.2.2 s (by omega) hp
  refine ⟨m, by rw [match_eq]; exact hm, ?_⟩
  unfold fitsP; rw [hm]

set_option linter.unusedSectionVars false
section
variable (l : List ByteArray) (ps : List Pat) (out : Bool) (hl : Small l) (hps : ps.length ≤ 1000) (hG : ∀ p ∈ ps, GoodP p)
include hl hps hG

theorem fl2_true (R acc : List ByteArray) (i : Nat) (s : ByteArray) (hs : l[i]? = some s) (hacc : acc.length ≤ i)
    (hn : Ev (fun k => if (true != out) = true then wainwrightref05_Filter.l1 k l out (acc ++ [s]) (ps.map patS) ((i + 1 : Nat) : Int) else wainwrightref05_Filter.l1 k l out acc (ps.map patS) ((i + 1 : Nat) : Int)) R) (j : Nat) :
    Ev (fun k => wainwrightref05_Filter.l2 k l out acc (ps.map patS) (i : Int) true (j : Int)) R := by
  have hil : i < l.length := (List.getElem?_eq_some_iff.mp hs).1
  have hlen := hl.1
  refine Ev.step (fun k => ?_) hn
  simp only [wainwrightref05_Filter.l2]
  have c0 : (0 : Int) ≤ (i : Int) := by omega
  have c1 : (i : Int) < (l.length : Int) := by omega
  have c2 : acc.length < 8796093022208 := by omega
  rw [rd_at hs, up1 i (by omega)]
  simp only [if_pos c0, if_pos c1, if_pos c2]
  split <;> rfl

theorem fl2 (R acc : List ByteArray) (i : Nat) (s : ByteArray) (hs : l[i]? = some s) (hacc : acc.length ≤ i)
    (hn : ∀ b, b = anyP ps s → Ev (fun k => if (b != out) = true then wainwrightref05_Filter.l1 k l out (acc ++ [s]) (ps.map patS) ((i + 1 : Nat) : Int) else wainwrightref05_Filter.l1 k l out acc (ps.map patS) ((i + 1 : Nat) : Int)) R) :
    ∀ (d j : Nat), j + d = ps.length → (∀ p ∈ ps.take j, fitsP p s = false) → Ev (fun k => wainwrightref05_Filter.l2 k l out acc (ps.map patS) (i : Int) false (j : Int)) R := by
  have hil : i < l.length := (List.getElem?_eq_some_iff.mp hs).1
  have hlen := hl.1
  have c0 : (0 : Int) ≤ (i : Int) := by omega
  have c1 : (i : Int) < (l.length : Int) := by omega
  have c2 : acc.length < 8796093022208 := by omega
  intro d
  induction d with
  | zero =>
    intro j hj hnot
    have hf : false = anyP ps s := by
      symm
      unfold anyP
      rw [Bool.eq_false_iff]
      intro hh
      obtain ⟨p, hp, hp2⟩ := List.any_eq_true.mp hh
      have := hnot p (by rw [List.take_of_length_le (by omega)]; exact hp)
      rw [this] at hp2; cases hp2
    refine Ev.step (fun k => ?_) (hn false hf)
    simp only [wainwrightref05_Filter.l2]
    rw [rd_at hs, up1 i (by omega), if_neg (by simp; omega)]
    simp only [if_pos c0, if_pos c1, if_pos c2]
  | succ d ih =>
    intro j hj hnot
    have hjl : j < ps.length := by omega
    obtain ⟨p, hp⟩ : ∃ p, ps[j]? = some p := ⟨_, List.getElem?_eq_getElem hjl⟩
    have hgp := hG p (List.mem_of_getElem? hp)
    have hsz := hl.2 s (List.mem_of_getElem? hs)
    obtain ⟨m, hm, hm2⟩ := match_ref p s hgp hsz
    have e1 : (j : Int) < ((ps.map patS).length : Int) := by simp; omega
    have e2 : (0 : Int) ≤ (j : Int) := by omega
    refine Ev.step (f := fun k => wainwrightref05_Filter.l2 k l out acc (ps.map patS) (i : Int) (fitsP p s) ((j + 1 : Nat) : Int)) (fun k => ?_) ?_
    · simp only [wainwrightref05_Filter.l2]
      rw [if_pos e1, if_neg (by decide), if_pos e2, if_pos c0, if_pos c1, rd_pat hp, rd_at hs]
      show ((wainwrightref02_Match.f p.1 p.2.1 p.2.2 s).bind _) = _
      rw [hm, Option.bind_some, hm2, up1 j (by omega)]
    · cases hf : fitsP p s with
      | true =>
        have ha : true = anyP ps s := by
          symm
          exact List.any_eq_true.mpr ⟨p, List.mem_of_getElem? hp, hf⟩
        exact fl2_true l ps out hl hps hG R acc i s hs hacc (hn true ha) (j + 1)
      | false =>
        refine ih (j + 1) (by omega) (fun q hq => ?_)
        obtain ⟨hk, he⟩ := List.getElem?_eq_some_iff.mp hp
        rw [List.take_succ_eq_append_getElem hk, he] at hq
        rcases List.mem_append.mp hq with hq | hq
        · exact hnot q hq
        · obtain rfl : q = p := by simpa using hq
          exact hf

theorem fl1 : ∀ (d i : Nat) (acc : List ByteArray), i + d = l.length → acc.length ≤ i → Ev (fun k => wainwrightref05_Filter.l1 k l out acc (ps.map patS) (i : Int)) (acc ++ keepB ps out (l.drop i)) := by
  have hlen := hl.1
  intro d
  induction d with
  | zero =>
    intro i acc h1 h2
    refine Ev.step (f := fun _ => some (acc ++ keepB ps out (l.drop i))) (fun k => ?_) (Ev.now _)
    simp only [wainwrightref05_Filter.l1]
    rw [if_neg (by omega), List.drop_eq_nil_of_le (by omega)]
    simp [keepB]
  | succ d ih =>
    intro i acc h1 h2
    obtain ⟨s, hs⟩ := get_lt (l := l) (i := i) (by omega)
    have c1 : (i : Int) < (l.length : Int) := by omega
    refine Ev.step (f := fun k => wainwrightref05_Filter.l2 k l out acc (ps.map patS) (i : Int) false 0) (fun k => by simp only [wainwrightref05_Filter.l1]; rw [if_pos c1]) ?_
    refine fl2 l ps out hl hps hG _ acc i s hs h2 (fun b hb => ?_) ps.length 0 (by omega) (by simp)
    rw [drop_at hs]
    have hk : keepB ps out (s :: l.drop (i + 1)) = if (b != out) = true then s :: keepB ps out (l.drop (i + 1)) else keepB ps out (l.drop (i + 1)) := by
      unfold keepB
      rw [hb, List.filter_cons]
    rw [hk]
    by_cases hbo : (b != out) = true
    · simp only [hbo, if_true]
      have := ih (i + 1) (acc ++ [s]) (by omega) (by simp; omega)
      simpa using this
    · have hbo' : (b != out) = false := by simpa using hbo
      simp only [hbo', Bool.false_eq_true, if_false]
      exact ih (i + 1) acc (by omega) (by omega)
end

theorem fl0 (q l : List ByteArray) (out : Bool) (hq : Small q) (hl : Small l) : ∀ (d i : Nat), i + d = q.length → Ev (fun k => wainwrightref05_Filter.l0 k q l out ((pats (q.take i)).map patS) (i : Int)) (keepB (pats q) out l) := by
  have hqlen := hq.1
  intro d
  induction d with
  | zero =>
    intro i h1
    have hG : ∀ p ∈ pats q, GoodP p := fun p hp => by
      obtain ⟨s, hs, rfl⟩ := List.mem_map.mp hp
      exact good_patOf s (by have := hq.2 s hs; omega)
    have h := fl1 l (pats q) out hl (by simp [pats]; omega) hG l.length 0 [] (by omega) (by simp)
    refine Ev.step (fun k => ?_) (by simpa using h)
    simp only [wainwrightref05_Filter.l0]
    rw [if_neg (by omega), List.take_of_length_le (by omega)]
  | succ d ih =>
    intro i h1
    obtain ⟨s, hs⟩ := get_lt (l := q) (i := i) (by omega)
    have hz := hq.2 s (List.mem_of_getElem? hs)
    have c1 : (i : Int) < (q.length : Int) := by omega
    have c0 : (0 : Int) ≤ (i : Int) := by omega
    have c2 : ((pats (q.take i)).map patS).length < 3518437208883 := by simp [pats]; omega
    have hof : Ev (fun k => wainwrightref02_Of.f k s) (patOf s) := ⟨s.size + 1, fun k hk => (refOf_eq s (by omega) k (by omega)).trans (of_patOf s (by omega))⟩
    have h := ih (i + 1) (by omega)
    rw [pats_step hs, List.map_append] at h
    refine Ev.step (f := fun k => (wainwrightref02_Of.f k s).bind fun t => wainwrightref05_Filter.l0 k q l out ((pats (q.take i)).map patS ++ [(⟨t.1, t.2.1, t.2.2⟩ : SP)]) ((i + 1 : Nat) : Int)) (fun k => ?_) (Ev.bind hof h)
    simp only [wainwrightref05_Filter.l0]
    rw [if_pos c1, if_pos c0, rd_at hs, up1 i (by omega)]
    simp only [if_pos c2]
theorem filter_is (q l : List ByteArray) (out : Bool) (hq : Small q) (hl : Small l) : ∃ k, wainwrightref05_Filter.f k q l out = some (keepB (pats q) out l) :=
  Ev.rounds (fl0 q l out hq hl q.length 0 (by omega))

/-! ### few -/
theorem few_l0 (l : List ByteArray) (hl : l.length ≤ 140737488351232) : ∀ (d i : Nat), i + d = l.length → (i ≤ 60) → (∀ s ∈ l.take i, s.size ≤ 60) → ∃ b, Ev (fun k => wainwrightlaw05_few.l0 k l (i : Int)) b ∧ (b = true → l.length ≤ 60 ∧ ∀ s ∈ l, s.size ≤ 60) := by
  intro d
  induction d with
  | zero =>
    intro i h1 h2 h3
    refine ⟨decide ((l.length : Int) ≤ 60), ⟨2, fun k hk => ?_⟩, fun h => ?_⟩
    · obtain ⟨k, rfl⟩ : ∃ m, k = m + 2 := ⟨k - 2, by omega⟩
      simp only [wainwrightlaw05_few.l0]
      rw [if_neg (by omega)]
      simp only [wainwrightlaw05_few.j1]
      rw [if_neg (by decide)]
    · have := of_decide_eq_true h
      exact ⟨by omega, fun s hs => h3 s (by rw [List.take_of_length_le (by omega)]; exact hs)⟩
  | succ d ih =>
    intro i h1 h2 h3
    obtain ⟨s, hs⟩ := get_lt (l := l) (i := i) (by omega)
    have c1 : (i : Int) < (l.length : Int) := by omega
    have c0 : (0 : Int) ≤ (i : Int) := by omega
    by_cases h60 : i = 60
    · subst h60
      refine ⟨false, ⟨2, fun k hk => ?_⟩, fun h => by cases h⟩
      obtain ⟨k, rfl⟩ : ∃ m, k = m + 2 := ⟨k - 2, by omega⟩
      simp only [wainwrightlaw05_few.l0]
      rw [if_pos c1, decide_eq_false (by omega)]
      simp only [wainwrightlaw05_few.j1]
      rw [if_neg (by decide), decide_eq_false (by omega)]
    · have hj : ∀ k, wainwrightlaw05_few.l0 (k + 2) l (i : Int) = if (s.size : Int) > 60 then some false else wainwrightlaw05_few.l0 k l ((i + 1 : Nat) : Int) := fun k => by
        simp only [wainwrightlaw05_few.l0]
        rw [if_pos c1, decide_eq_true (by omega)]
        simp only [wainwrightlaw05_few.j1]
        rw [if_pos trivial, if_pos c0, if_pos c1, rd_at hs, up1 i (by omega)]
      by_cases hz : (s.size : Int) > 60
      · refine ⟨false, ⟨2, fun k hk => ?_⟩, fun h => by cases h⟩
        obtain ⟨k, rfl⟩ : ∃ m, k = m + 2 := ⟨k - 2, by omega⟩
        exact (hj k).trans (if_pos hz)
      · obtain ⟨b, ⟨K, hK⟩, hb⟩ := ih (i + 1) (by omega) (by omega) (fun x hx => by
          obtain ⟨hk, he⟩ := List.getElem?_eq_some_iff.mp hs
          rw [List.take_succ_eq_append_getElem hk, he] at hx
          rcases List.mem_append.mp hx with hx | hx
          · exact h3 x hx
          · obtain rfl : x = s := by simpa using hx
            omega)
        refine ⟨b, ⟨K + 2, fun k hk => ?_⟩, hb⟩
        obtain ⟨k, rfl⟩ : ∃ m, k = m + 2 := ⟨k - 2, by omega⟩
        exact ((hj k).trans (if_neg hz)).trans (hK k (by omega))
theorem few_is (l : List ByteArray) (hl : l.length ≤ 140737488351232) : ∃ b k, wainwrightlaw05_few.f k l = some b ∧ (b = true → l.length ≤ 60 ∧ ∀ s ∈ l, s.size ≤ 60) := by
  obtain ⟨b, hE, hb⟩ := few_l0 l hl l.length 0 (by omega) (by omega) (by simp)
  obtain ⟨k, hk⟩ := Ev.rounds hE
  exact ⟨b, k, hk, hb⟩
theorem few_calls (w : World) (A : Option Addr) (c : Nat) (l : List ByteArray) (h : Strs w A l) (hc : l.length ≤ c) (hl : l.length ≤ 140737488351232) :
    Calls Try.prog 7 #[.slice A l.length c] w fun e w' => ∃ b, e = .returned (.bool b) ∧ (b = true → l.length ≤ 60 ∧ ∀ s ∈ l, s.size ≤ 60) ∧ ∃ n, w' = w.drewN n := by
  obtain ⟨b, k, hk, hb⟩ := few_is l hl
  refine (wainwrightlaw05_few.calls k A c l b w h hc hk).mono ?_
  rintro e w' ⟨rfl, n, rfl⟩
  exact ⟨b, rfl, hb, n, rfl⟩
end Go.Proofs.Ytlmabmpdbcgabaa.G
