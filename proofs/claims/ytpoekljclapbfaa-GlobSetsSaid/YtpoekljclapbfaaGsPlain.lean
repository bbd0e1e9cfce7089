/- Patterns with sets, plain: what glob's set loop finds and what the reference's set reads are the same items; a text matched piece by piece from its end. -/
import Derived.Test.YtpoekljclapbfaaProg
namespace Go.Proofs.Ytpoekljclapbfaa.Gs

/-- A byte, or one that a backslash quotes; what is behind. -/
def oneB : List UInt8 → UInt8 × List UInt8
  | [] => (0, [])
  | [c] => (c, [])
  | c :: d :: r => if c = 92 then (d, r) else (c, d :: r)
theorem oneB_len : ∀ (c : UInt8) (r : List UInt8), (oneB (c :: r)).2.length < (c :: r).length
  | c, [] => by simp [oneB]
  | c, d :: r => by simp only [oneB]; split <;> simp <;> omega
theorem oneB_ne {c : UInt8} (h : c ≠ 92) (r : List UInt8) : oneB (c :: r) = (c, r) := by
  cases r with
  | nil => rfl
  | cons d r => simp [oneB, h]
theorem oneB_q (d : UInt8) (r : List UInt8) : oneB (92 :: d :: r) = (d, r) := by simp [oneB]

/-- glob's search for the end of a set: what stands in it, what is behind. -/
def gSplit : Bool → List UInt8 → Option (List UInt8 × List UInt8)
  | _, [] => none
  | f, [c] => if c = 93 ∧ f = false then some ([], []) else none
  | f, c :: d :: r => if c = 93 ∧ f = false then some ([], d :: r) else if c = 92 then (gSplit false r).map (fun p => (92 :: d :: p.1, p.2)) else (gSplit false (d :: r)).map (fun p => (c :: p.1, p.2))

/-- What may stand in a set. -/
inductive Body : Bool → List UInt8 → Prop where
  | nil : Body false []
  | chr {f c t} : c ≠ 92 → ¬ (c = 93 ∧ f = false) → Body false t → Body f (c :: t)
  | quote {f d t} : Body false t → Body f (92 :: d :: t)

theorem split_spec : ∀ (n : Nat) (f : Bool) (l t r : List UInt8), l.length ≤ n → gSplit f l = some (t, r) → l = t ++ 93 :: r ∧ Body f t := by
  intro n
  induction n with
  | zero => intro f l t r hl h; have : l = [] := List.length_eq_zero_iff.mp (by omega); subst this; simp [gSplit] at h
  | succ n ih =>
    intro f l t r hl h
    match l, hl, h with
    | [], _, h => simp [gSplit] at h
    | [c], _, h =>
      simp only [gSplit] at h
      split at h
      · rename_i hc
        obtain ⟨rfl, rfl⟩ : t = [] ∧ r = [] := by simpa [eq_comm] using h
        obtain ⟨rfl, rfl⟩ := hc
        exact ⟨rfl, .nil⟩
      · cases h
    | c :: d :: l, hl, h =>
      simp only [List.length_cons] at hl
      simp only [gSplit] at h
      split at h
      · rename_i hc
        obtain ⟨rfl, rfl⟩ : t = [] ∧ r = d :: l := by simpa [eq_comm] using h
        obtain ⟨rfl, rfl⟩ := hc
        exact ⟨rfl, .nil⟩
      · rename_i hc
        split at h
        · rename_i hq
          subst hq
          obtain ⟨⟨t', r'⟩, hp, he⟩ := Option.map_eq_some_iff.mp h
          obtain ⟨rfl, rfl⟩ : 92 :: d :: t' = t ∧ r' = r := by simpa using he
          obtain ⟨e, b⟩ := ih false l t' r' (by omega) hp
          exact ⟨by rw [e]; rfl, .quote b⟩
        · rename_i hq
          obtain ⟨⟨t', r'⟩, hp, he⟩ := Option.map_eq_some_iff.mp h
          obtain ⟨rfl, rfl⟩ : c :: t' = t ∧ r' = r := by simpa using he
          obtain ⟨e, b⟩ := ih false (d :: l) t' r' (by simp; omega) hp
          exact ⟨by rw [e]; rfl, .chr hq hc b⟩

/-- Is there a range? Its upper end and what is behind. -/
def dash : List UInt8 → Option (List UInt8)
  | a :: x :: r => if a = 45 then some (x :: r) else none
  | _ => none
def rdash : List UInt8 → Option (List UInt8)
  | a :: x :: r => if a = 45 ∧ x ≠ 93 then some (x :: r) else none
  | _ => none
/-- The items of a set's text, as glob reads them. -/
def gItems : Nat → List UInt8 → List (UInt8 × UInt8)
  | 0, _ => []
  | _, [] => []
  | n + 1, c :: r => match dash (oneB (c :: r)).2 with
    | some l => ((oneB (c :: r)).1, (oneB l).1) :: gItems n (oneB l).2
    | none => ((oneB (c :: r)).1, (oneB (c :: r)).1) :: gItems n (oneB (c :: r)).2

/-- The items of a set and what is behind it, as the reference reads them. -/
def rItems : Nat → Bool → List UInt8 → Option (List (UInt8 × UInt8) × List UInt8)
  | 0, _, _ => none
  | _, _, [] => none
  | n + 1, f, c :: r => if c = 93 ∧ f = false then some ([], r) else match rdash (oneB (c :: r)).2 with
    | some l => (rItems n false (oneB l).2).map (fun p => (((oneB (c :: r)).1, (oneB l).1) :: p.1, p.2))
    | none => (rItems n false (oneB (c :: r)).2).map (fun p => (((oneB (c :: r)).1, (oneB (c :: r)).1) :: p.1, p.2))

/-- The first of a body, read in both ways. -/
theorem body_one {f : Bool} {t : List UInt8} (h : Body f t) (hne : t ≠ []) (r : List UInt8) :
    ∃ c t', t = c :: t' ∧ ¬ (c = 93 ∧ f = false) ∧ ∃ b u, oneB t = (b, u) ∧ oneB (t ++ 93 :: r) = (b, u ++ 93 :: r) ∧ Body false u ∧ u.length < t.length := by
  cases h with
  | nil => exact absurd rfl hne
  | chr hc h93 hb => exact ⟨_, _, rfl, h93, _, _, oneB_ne hc _, oneB_ne hc _, hb, by simp⟩
  | quote hb => exact ⟨_, _, rfl, fun e => absurd e.1 (by decide), _, _, oneB_q _ _, oneB_q _ _, hb, by simp; omega⟩

theorem body_dash {u : List UInt8} (h : Body false u) (r : List UInt8) : rdash (u ++ 93 :: r) = (dash u).map (· ++ 93 :: r) := by
  match u, h with
  | [], _ => cases r <;> simp [rdash, dash]
  | [a], _ => simp [rdash, dash]
  | a :: x :: u, h =>
    by_cases ha : a = 45
    · subst ha
      have hx : ¬ x = 93 := by
        cases h with
        | chr _ _ h => cases h with
          | chr _ h _ => exact fun e => h ⟨e, rfl⟩
          | quote _ => decide
      simp [rdash, dash, hx]
    · simp [rdash, dash, ha]
theorem dash_body {u v : List UInt8} (h : Body false u) (hv : dash u = some v) : Body false v ∧ v ≠ [] ∧ v.length < u.length := by
  match u, h, hv with
  | [], _, hv => simp [dash] at hv
  | [a], _, hv => simp [dash] at hv
  | a :: x :: u, h, hv =>
    simp only [dash] at hv
    split at hv
    · rename_i ha
      obtain rfl := Option.some.inj hv
      subst ha
      cases h with
      | chr _ _ h => exact ⟨h, by simp, by simp⟩
    · cases hv

theorem body_items : ∀ (n : Nat) (f : Bool) (t r : List UInt8), t.length < n → Body f t → rItems n f (t ++ 93 :: r) = some (gItems n t, r) := by
  intro n
  induction n with
  | zero => intro f t r hl; omega
  | succ n ih =>
    intro f t r hl hb
    by_cases hne : t = []
    · subst hne
      cases hb
      simp [rItems, gItems]
    · obtain ⟨c, t', rfl, h93, b, u, h1, h2, hu, hlu⟩ := body_one hb hne r
      simp only [List.cons_append] at h2
      rw [List.cons_append, rItems, if_neg h93, h2, gItems, h1]
      simp only
      rw [body_dash hu]
      cases hd : dash u with
      | none =>
        simp only [Option.map_none]
        rw [ih false u r (by omega) hu]
        rfl
      | some v =>
        obtain ⟨hv, hvn, hvl⟩ := dash_body hu hd
        obtain ⟨_, _, _, _, b2, u2, k1, k2, hu2, hl2⟩ := body_one hv hvn r
        simp only [Option.map_some]
        rw [k2, k1]
        simp only
        rw [ih false u2 r (by omega) hu2]
        rfl

/-- Where the first does not end the set, the search goes on behind it. -/
theorem split_one {f : Bool} {c : UInt8} {l : List UInt8} (hc : ¬ (c = 93 ∧ f = false)) (h : gSplit f (c :: l) = none) : gSplit false (oneB (c :: l)).2 = none := by
  cases l with
  | nil => rfl
  | cons d l =>
    simp only [gSplit] at h
    rw [if_neg hc] at h
    simp only [oneB]
    split at h
    · rename_i hq
      rw [if_pos hq]
      simpa using h
    · rename_i hq
      rw [if_neg hq]
      simpa using h
theorem none_items : ∀ (n : Nat) (f : Bool) (l : List UInt8), gSplit f l = none → rItems n f l = none := by
  intro n
  induction n with
  | zero => intro f l _; rfl
  | succ n ih =>
    intro f l h
    cases l with
    | nil => rfl
    | cons c l =>
      by_cases hc : c = 93 ∧ f = false
      · exfalso
        obtain ⟨rfl, rfl⟩ := hc
        cases l <;> simp [gSplit] at h
      · have h1 := split_one hc h
        rw [rItems, if_neg hc]
        cases hd : rdash (oneB (c :: l)).2 with
        | none => simp only; rw [ih false _ h1]; rfl
        | some v =>
          simp only
          have hv : gSplit false v = none ∧ ∃ x v', v = x :: v' ∧ x ≠ 93 := by
            generalize (oneB (c :: l)).2 = u at hd h1
            match u, hd, h1 with
            | [], hd, _ => simp [rdash] at hd
            | [a], hd, _ => simp [rdash] at hd
            | a :: x :: u, hd, h1 =>
              simp only [rdash] at hd
              split at hd
              · rename_i ha
                obtain rfl := Option.some.inj hd
                obtain ⟨rfl, hx⟩ := ha
                have := split_one (f := false) (c := 45) (by decide) h1
                rw [oneB_ne (by decide)] at this
                exact ⟨this, x, u, rfl, hx⟩
              · cases hd
          obtain ⟨h2, x, v', rfl, hx⟩ := hv
          rw [ih false _ (split_one (fun e => hx e.1) h2)]
          rfl

/-! ### A set, a pattern's pieces -/
def isNot : List UInt8 → Bool
  | c :: _ => c == 33 || c == 94
  | [] => false
def behindNot (l : List UInt8) : List UInt8 := if isNot l then l.tail else l
/-- What a set says of a byte. -/
def setF (nt : Bool) (its : List (UInt8 × UInt8)) (c : UInt8) : Bool := (its.any (fun p => decide (p.1 ≤ c) && decide (c ≤ p.2))) != nt
/-- The set behind a [ , as the reference has it: which bytes; what is behind. -/
def refSet (l : List UInt8) : Option ((UInt8 → Bool) × List UInt8) := (rItems (l.length + 1) true (behindNot l)).map (fun p => (setF (isNot l) p.1, p.2))
/-- .. as glob has it: the text between [ and ], what is behind. -/
def gloSet (l : List UInt8) : Option (List UInt8 × List UInt8) := (gSplit true (behindNot l)).map (fun p => (if isNot l then l.take 1 ++ p.1 else p.1, p.2))
/-- What glob's `in` answers of such a text. -/
def inF (s : List UInt8) (c : UInt8) : Bool := setF (isNot s) (gItems (s.length + 1) (behindNot s)) c

theorem gItems_more : ∀ (n m : Nat) (f : Bool) (t : List UInt8), t.length < n → t.length < m → Body f t → gItems n t = gItems m t := by
  intro n m f t hn hm hb
  have h1 := body_items n f t [] hn hb
  have h2 := body_items m f t [] hm hb
  have e : ∀ k, rItems (n + k) f (t ++ [93]) = rItems (n + k) f (t ++ [93]) := fun _ => rfl
  clear e
  revert m f t n
  intro n
  induction n with
  | zero => intro f t hn; omega
  | succ n ih =>
    intro m f t hn hm hb _ _
    obtain ⟨m, rfl⟩ : ∃ k, m = k + 1 := ⟨m - 1, by omega⟩
    by_cases hne : t = []
    · subst hne; rfl
    · obtain ⟨c, t', rfl, h93, b, u, h1, h2, hu, hlu⟩ := body_one hb hne []
      rw [gItems, gItems, h1]
      simp only
      cases hd : dash u with
      | none => simp only; rw [ih m false u (by omega) (by omega) hu (body_items _ _ _ _ (by omega) hu) (body_items _ _ _ _ (by omega) hu)]
      | some v =>
        obtain ⟨hv, hvn, hvl⟩ := dash_body hu hd
        obtain ⟨_, _, _, _, b2, u2, k1, k2, hu2, hl2⟩ := body_one hv hvn []
        simp only
        rw [k1]
        simp only
        rw [ih m false u2 (by omega) (by omega) hu2 (body_items _ _ _ _ (by omega) hu2) (body_items _ _ _ _ (by omega) hu2)]

theorem set_same (l : List UInt8) : match gloSet l with
    | none => refSet l = none
    | some (t, r) => refSet l = some (inF t, r) ∧ l = t ++ 93 :: r := by
  unfold gloSet refSet
  have hbl : (behindNot l).length ≤ l.length := by unfold behindNot; split <;> simp
  cases h : gSplit true (behindNot l) with
  | none => simp only [Option.map_none]; rw [none_items _ _ _ h]; rfl
  | some p =>
    obtain ⟨t, r⟩ := p
    obtain ⟨e, hb⟩ := split_spec _ true _ t r (Nat.le_refl _) h
    simp only [Option.map_some]
    have hlt : t.length < l.length + 1 := by rw [e] at hbl; simp at hbl; omega
    rw [e, body_items _ true t r hlt hb]
    simp only [Option.map_some]
    cases hn : isNot l with
    | true =>
      cases l with
      | nil => simp [isNot] at hn
      | cons c l =>
        have e2 : l = t ++ 93 :: r := by rw [← e]; simp [behindNot, hn]
        refine ⟨?_, by simp [e2]⟩
        have hc : isNot (c :: t) = true := by simpa [isNot] using hn
        have : inF (c :: t) = setF true (gItems (l.length + 1 + 1) t) := by
          funext x
          unfold inF
          rw [hc]
          have : behindNot (c :: t) = t := by simp [behindNot, hc]
          rw [this, gItems_more _ (l.length + 1 + 1) true t (by simp; omega) (by rw [e2]; simp; omega) hb]
        simp only [if_pos trivial, List.take_succ_cons, List.take_zero, List.cons_append, List.nil_append]
        rw [this]
        rfl
    | false =>
      have e2 : l = t ++ 93 :: r := by rw [← e]; simp [behindNot, hn]
      have hne : t ≠ [] := by intro h0; subst h0; cases hb
      have hc : isNot t = false := by
        cases t with
        | nil => exact absurd rfl hne
        | cons c t => rw [e2] at hn; simpa [isNot] using hn
      refine ⟨?_, by simpa using e2⟩
      have : inF t = setF false (gItems (l.length + 1) t) := by
        funext x
        unfold inF
        rw [hc]
        have : behindNot t = t := by simp [behindNot, hc]
        rw [this, gItems_more _ (l.length + 1) true t (by omega) hlt hb]
      simp only [Bool.false_eq_true, if_false]
      rw [this]

/-- A piece of a pattern. -/
inductive Pc where
  | star
  | any
  | lit (c : UInt8)
  | set (t : List UInt8)
def Pc.ok : Pc → UInt8 → Bool
  | .star, _ => false
  | .any, _ => true
  | .lit c, b => b == c
  | .set t, b => inF t b
def Pc.isStar : Pc → Bool
  | .star => true
  | _ => false
/-- A pattern's pieces. -/
def pcs : Nat → List UInt8 → List Pc
  | 0, _ => []
  | _, [] => []
  | n + 1, c :: r => if c = 42 then .star :: pcs n r else if c = 63 then .any :: pcs n r else if c = 91 then
      match gloSet r with
      | some (t, r') => .set t :: pcs n r'
      | none => .lit 91 :: pcs n r
    else .lit (oneB (c :: r)).1 :: pcs n (oneB (c :: r)).2

/-! ### Matching from the front, from the back -/
def anySuf (g : List UInt8 → Bool) : List UInt8 → Bool
  | [] => g []
  | c :: s => g (c :: s) || anySuf g s
def mat : List Pc → List UInt8 → Bool
  | [], s => s.isEmpty
  | .star :: t, s => anySuf (mat t) s
  | _ :: _, [] => false
  | x :: t, b :: s => x.ok b && mat t s
theorem mat_one {x : Pc} (h : x.isStar = false) (t : List Pc) (s : List UInt8) : mat (x :: t) s = match s with | [] => false | b :: s' => x.ok b && mat t s' := by
  cases x with
  | star => exact absurd h (by decide)
  | any => cases s <;> simp [mat]
  | lit c => cases s <;> simp [mat]
  | set t => cases s <;> simp [mat]
theorem suf_snoc (g : List UInt8 → Bool) (b : UInt8) : ∀ s : List UInt8, anySuf g (s ++ [b]) = (anySuf (fun u => g (u ++ [b])) s || g [])
  | [] => by simp [anySuf]
  | c :: s => by simp only [List.cons_append, anySuf]; rw [suf_snoc g b s, Bool.or_assoc]
theorem suf_and (g : List UInt8 → Bool) (k : Bool) : ∀ s : List UInt8, anySuf (fun u => g u && k) s = (anySuf g s && k)
  | [] => rfl
  | c :: s => by simp only [anySuf]; rw [suf_and g k s]; cases k <;> simp
theorem mat_snoc {x : Pc} (h : x.isStar = false) (b : UInt8) : ∀ (l : List Pc) (s : List UInt8), mat (l ++ [x]) (s ++ [b]) = (mat l s && x.ok b)
  | [], s => by
    rw [List.nil_append, mat_one h]
    cases s with
    | nil => simp [mat]
    | cons c s => simp [mat]
  | y :: l, s => by
    cases hy : y.isStar with
    | true =>
      have : y = .star := by cases y <;> first | rfl | exact Bool.noConfusion hy
      subst this
      simp only [List.cons_append, mat]
      rw [suf_snoc]
      have h0 : mat (l ++ [x]) [] = false := mat_nil h l
      rw [h0, Bool.or_false]
      have : (fun u => mat (l ++ [x]) (u ++ [b])) = fun u => mat l u && x.ok b := by funext u; exact mat_snoc h b l u
      rw [this, suf_and]
    | false =>
      rw [List.cons_append, mat_one hy, mat_one hy]
      cases s with
      | nil =>
        simp only [List.nil_append, Bool.false_and]
        rw [mat_nil h l, Bool.and_false]
      | cons c s =>
        simp only [List.cons_append]
        rw [mat_snoc h b l s, Bool.and_assoc]
where mat_nil {x : Pc} (h : x.isStar = false) : ∀ l : List Pc, mat (l ++ [x]) [] = false
  | [] => by rw [List.nil_append, mat_one h]
  | y :: l => by
    cases hy : y.isStar with
    | true =>
      have : y = .star := by cases y <;> first | rfl | exact Bool.noConfusion hy
      subst this
      simp only [List.cons_append, mat, anySuf]
      exact mat_nil h l
    | false => rw [List.cons_append, mat_one hy]
theorem mat_nil {x : Pc} (h : x.isStar = false) (l : List Pc) : mat (l ++ [x]) [] = false := mat_snoc.mat_nil h l

/-- A star behind: some beginning is matched. -/
theorem mat_star_nil : ∀ l : List Pc, mat (l ++ [.star]) [] = mat l []
  | [] => by simp [mat, anySuf]
  | y :: l => by
    cases hy : y.isStar with
    | true =>
      have : y = .star := by cases y <;> first | rfl | exact Bool.noConfusion hy
      subst this
      simp only [List.cons_append, mat, anySuf]
      exact mat_star_nil l
    | false => rw [List.cons_append, mat_one hy, mat_one hy]
theorem suf_or (g k : List UInt8 → Bool) : ∀ s : List UInt8, anySuf (fun u => g u || k u) s = (anySuf g s || anySuf k s)
  | [] => rfl
  | c :: s => by
    simp only [anySuf]; rw [suf_or g k s]
    cases g (c :: s) <;> cases k (c :: s) <;> simp
theorem mat_star : ∀ (l : List Pc) (s : List UInt8) (b : UInt8), mat (l ++ [.star]) (s ++ [b]) = (mat (l ++ [.star]) s || mat l (s ++ [b]))
  | [], s, b => by
    have : ∀ u : List UInt8, anySuf (fun x : List UInt8 => x.isEmpty) u = true := fun u => by
      induction u with
      | nil => rfl
      | cons c u ih => simp only [anySuf]; rw [ih, Bool.or_true]
    simp only [List.nil_append, mat, this, Bool.true_or]
  | y :: l, s, b => by
    cases hy : y.isStar with
    | true =>
      have : y = .star := by cases y <;> first | rfl | exact Bool.noConfusion hy
      subst this
      simp only [List.cons_append, mat]
      rw [suf_snoc, suf_snoc]
      have : (fun u => mat (l ++ [.star]) (u ++ [b])) = fun u => mat (l ++ [.star]) u || mat l (u ++ [b]) := by funext u; exact mat_star l u b
      rw [this, suf_or, mat_star_nil l, Bool.or_assoc]
    | false =>
      rw [List.cons_append, mat_one hy, mat_one hy, mat_one hy]
      cases s with
      | nil =>
        simp only [List.nil_append, Bool.false_or]
        rw [mat_star_nil l]
      | cons c s =>
        simp only [List.cons_append]
        rw [mat_star l s b]
        cases y.ok c <;> simp
end Go.Proofs.Ytpoekljclapbfaa.Gs
