/- Plain law of glob.Match: its search by the last star finds a match just where there is one. -/
import Derived.Test.YtpoekljclapbfaaPureGlob
namespace Go.Proofs.Ytpoekljclapbfaa.Pure
open Go.RowKit Go.Proofs.Ytpoekljclapbfaa.P Go.Proofs.Ytpoekljclapbfaa.G Go.Proofs.Ytpoekljclapbfaa.P0 Go.Proofs.YtpoekljclapbfaaW.PrintWords Go.Proofs.YtpoekljclapbfaaW.PrintLast

/-- A part of a pattern without sets. -/
inductive Tok where
  | star
  | any
  | lit (c : UInt8)
def Tok.ok : Tok → UInt8 → Bool
  | .star, _ => false
  | .any, _ => true
  | .lit c, b => b == c
def Tok.isStar : Tok → Bool
  | .star => true
  | _ => false

/-- A pattern's parts. -/
inductive Toks : List UInt8 → List Tok → Prop where
  | nil : Toks [] []
  | star {r t} : Toks r t → Toks (42 :: r) (.star :: t)
  | any {r t} : Toks r t → Toks (63 :: r) (.any :: t)
  | quote {c r t} : Toks r t → Toks (92 :: c :: r) (.lit c :: t)
  | lit {c r t} : c ≠ 42 → c ≠ 63 → c ≠ 91 → c ≠ 92 → Toks r t → Toks (c :: r) (.lit c :: t)

def anySuf (g : List UInt8 → Bool) : List UInt8 → Bool
  | [] => g []
  | c :: s => g (c :: s) || anySuf g s

/-- Does a text match parts? -/
def mat : List Tok → List UInt8 → Bool
  | [], s => s.isEmpty
  | .star :: t, s => anySuf (mat t) s
  | .any :: _, [] => false
  | .any :: t, _ :: s => mat t s
  | .lit _ :: _, [] => false
  | .lit c :: t, b :: s => (b == c) && mat t s

theorem anySuf_iff (g : List UInt8 → Bool) (s : List UInt8) : anySuf g s = true ↔ ∃ t, t <:+ s ∧ g t = true := by
  induction s with
  | nil =>
    constructor
    · intro h; exact ⟨[], List.suffix_refl _, h⟩
    · rintro ⟨t, ht, h⟩
      have e : t = [] := List.suffix_nil.mp ht
      subst e; exact h
  | cons c s ih =>
    simp only [anySuf, Bool.or_eq_true, ih]
    constructor
    · rintro (h | ⟨t, ht, h⟩)
      · exact ⟨_, List.suffix_refl _, h⟩
      · exact ⟨t, ht.trans (List.suffix_cons c s), h⟩
    · rintro ⟨t, ht, h⟩
      rcases List.suffix_cons_iff.mp ht with e | e
      · subst e; exact Or.inl h
      · exact Or.inr ⟨t, e, h⟩

theorem mat_one {x : Tok} (h : x.isStar = false) (t : List Tok) (s : List UInt8) : mat (x :: t) s = match s with | [] => false | b :: s' => x.ok b && mat t s' := by
  cases x with
  | star => exact absurd h (by decide)
  | any => cases s <;> simp [mat, Tok.ok]
  | lit c => cases s <;> simp [mat, Tok.ok]

/-- What was matched behind the last star: as many bytes as parts. -/
theorem mat_app {q : List Tok} (hq : ∀ x ∈ q, x.isStar = false) (t : List Tok) (v : List UInt8) (h : mat (q ++ t) v = true) : ∃ a b, v = a ++ b ∧ a.length = q.length ∧ mat t b = true := by
  induction q generalizing v with
  | nil => exact ⟨[], v, rfl, rfl, h⟩
  | cons x q ih =>
    rw [List.cons_append, mat_one (hq x (by simp))] at h
    cases v with
    | nil => exact absurd h (by simp)
    | cons c v =>
      simp only [Bool.and_eq_true] at h
      obtain ⟨a, b, e, hl, hm⟩ := ih (fun y hy => hq y (List.mem_cons_of_mem _ hy)) v h.2
      exact ⟨c :: a, b, by rw [e]; rfl, by simp [hl], hm⟩

/-- Behind a new star the elder one is wanted no more. -/
theorem drop_old {q t : List Tok} {u s v : List UInt8} (hq : ∀ x ∈ q, x.isStar = false) (hu : u.length = q.length) (hv : v <:+ (u ++ s)) (hlt : v.length ≤ (u ++ s).length) (h : mat (q ++ .star :: t) v = true) : anySuf (mat t) s = true := by
  obtain ⟨a, b, e, hl, hm⟩ := mat_app hq _ v h
  simp only [mat] at hm
  obtain ⟨b', hb, hm⟩ := (anySuf_iff _ _).mp hm
  refine (anySuf_iff _ _).mpr ⟨b', ?_, hm⟩
  have h1 : b <:+ v := ⟨a, e.symm⟩
  have h2 := (hb.trans h1).trans hv
  refine List.suffix_of_suffix_length_le h2 (List.suffix_append u s) ?_
  have h3 := hb.length_le
  rw [e] at hlt
  simp only [List.length_append] at hlt
  omega

/-- .. so far on, a match of what the last star left. -/
def later (t : List Tok) : List UInt8 → Bool
  | [] => false
  | _ :: s => anySuf (mat t) s

theorem later_iff (t : List Tok) (s : List UInt8) (h : later t s = true) : ∃ v, v <:+ s ∧ mat t v = true := by
  cases s with
  | nil => exact absurd h (by simp [later])
  | cons c s =>
    obtain ⟨v, hv, hm⟩ := (anySuf_iff _ _).mp h
    exact ⟨v, hv.trans (List.suffix_cons c s), hm⟩
theorem any_later (t : List Tok) (s : List UInt8) : anySuf (mat t) s = (mat t s || later t s) := by
  cases s with
  | nil => simp [anySuf, later]
  | cons c s => rfl
end Go.Proofs.Ytpoekljclapbfaa.Pure
