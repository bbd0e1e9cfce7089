/- glob.Match's search by the last star finds a match just where there is one: patterns with sets. -/
import Derived.Test.YtpoekljclapbfaaGsPlain
namespace Go.Proofs.Ytpoekljclapbfaa.Gs

/-- A pattern's pieces. -/
inductive Toks : List UInt8 → List Pc → Prop where
  | nil : Toks [] []
  | star {r t} : Toks r t → Toks (42 :: r) (.star :: t)
  | any {r t} : Toks r t → Toks (63 :: r) (.any :: t)
  | quote {c r t} : Toks r t → Toks (92 :: c :: r) (.lit c :: t)
  | lit {c r t} : c ≠ 42 → c ≠ 63 → (c = 91 → gloSet r = none) → (c = 92 → r = []) → Toks r t → Toks (c :: r) (.lit c :: t)
  | set {l st r t} : gloSet l = some (st, r) → Toks r t → Toks (91 :: l) (.set st :: t)
theorem glo_len {l st r : List UInt8} (h : gloSet l = some (st, r)) : l = st ++ 93 :: r := by
  have := set_same l
  rw [h] at this
  exact this.2
theorem toks_pcs : ∀ (n : Nat) (l : List UInt8), l.length < n → Toks l (pcs n l) := by
  intro n
  induction n with
  | zero => intro l h; omega
  | succ n ih =>
    intro l h
    cases l with
    | nil => exact .nil
    | cons c r =>
      have hr := ih r (by simp at h; omega)
      simp only [pcs]
      split
      · rename_i e; subst e; exact .star hr
      · rename_i h42
        split
        · rename_i e; subst e; exact .any hr
        · rename_i h63
          split
          · rename_i e
            subst e
            split
            · rename_i st r' hg
              have := glo_len hg
              exact .set hg (ih r' (by rw [this] at h; simp at h; omega))
            · rename_i hg
              exact .lit (by decide) (by decide) (fun _ => hg) (fun e => absurd e (by decide)) hr
          · rename_i h91
            cases r with
            | nil => exact .lit h42 h63 (fun e => absurd e h91) (fun _ => rfl) (ih [] (by simp at h ⊢; omega))
            | cons d r =>
              by_cases hq : c = 92
              · subst hq
                rw [oneB_q]
                exact .quote (ih r (by simp at h; omega))
              · rw [oneB_ne hq]
                exact .lit h42 h63 (fun e => absurd e h91) (fun e => absurd e hq) hr

theorem anySuf_iff (g : List UInt8 → Bool) (s : List UInt8) : anySuf g s = true ↔ ∃ t, t <:+ s ∧ g t = true := by
  induction s with
  | nil =>
    constructor
    · intro h; exact ⟨[], List.suffix_refl _, h⟩
    · rintro ⟨t, ht, h⟩
      have e : t = [] := List.suffix_nil.mp ht
      subst e; exact h
  | cons c s ih =>
    simp only [anySuf, Bool.or_eq_true, ih]
    constructor
    · rintro (h | ⟨t, ht, h⟩)
      · exact ⟨_, List.suffix_refl _, h⟩
      · exact ⟨t, ht.trans (List.suffix_cons c s), h⟩
    · rintro ⟨t, ht, h⟩
      rcases List.suffix_cons_iff.mp ht with e | e
      · subst e; exact Or.inl h
      · exact Or.inr ⟨t, e, h⟩

/-- What was matched behind the last star: as many bytes as parts. -/
theorem mat_app {q : List Pc} (hq : ∀ x ∈ q, x.isStar = false) (t : List Pc) (v : List UInt8) (h : mat (q ++ t) v = true) : ∃ a b, v = a ++ b ∧ a.length = q.length ∧ mat t b = true := by
  induction q generalizing v with
  | nil => exact ⟨[], v, rfl, rfl, h⟩
  | cons x q ih =>
    rw [List.cons_append, mat_one (hq x (by simp))] at h
    cases v with
    | nil => exact absurd h (by simp)
    | cons c v =>
      simp only [Bool.and_eq_true] at h
      obtain ⟨a, b, e, hl, hm⟩ := ih (fun y hy => hq y (List.mem_cons_of_mem _ hy)) v h.2
      exact ⟨c :: a, b, by rw [e]; rfl, by simp [hl], hm⟩

/-- Behind a new star the elder one is wanted no more. -/
theorem drop_old {q t : List Pc} {u s v : List UInt8} (hq : ∀ x ∈ q, x.isStar = false) (hu : u.length = q.length) (hv : v <:+ (u ++ s)) (hlt : v.length ≤ (u ++ s).length) (h : mat (q ++ .star :: t) v = true) : anySuf (mat t) s = true := by
  obtain ⟨a, b, e, hl, hm⟩ := mat_app hq _ v h
  simp only [mat] at hm
  obtain ⟨b', hb, hm⟩ := (anySuf_iff _ _).mp hm
  refine (anySuf_iff _ _).mpr ⟨b', ?_, hm⟩
  have h1 : b <:+ v := ⟨a, e.symm⟩
  have h2 := (hb.trans h1).trans hv
  refine List.suffix_of_suffix_length_le h2 (List.suffix_append u s) ?_
  have h3 := hb.length_le
  rw [e] at hlt
  simp only [List.length_append] at hlt
  omega

/-- .. so far on, a match of what the last star left. -/
def later (t : List Pc) : List UInt8 → Bool
  | [] => false
  | _ :: s => anySuf (mat t) s

theorem later_iff (t : List Pc) (s : List UInt8) (h : later t s = true) : ∃ v, v <:+ s ∧ mat t v = true := by
  cases s with
  | nil => exact absurd h (by simp [later])
  | cons c s =>
    obtain ⟨v, hv, hm⟩ := (anySuf_iff _ _).mp h
    exact ⟨v, hv.trans (List.suffix_cons c s), hm⟩
theorem any_later (t : List Pc) (s : List UInt8) : anySuf (mat t) s = (mat t s || later t s) := by
  cases s with
  | nil => simp [anySuf, later]
  | cons c s => rfl
end Go.Proofs.Ytpoekljclapbfaa.Gs
