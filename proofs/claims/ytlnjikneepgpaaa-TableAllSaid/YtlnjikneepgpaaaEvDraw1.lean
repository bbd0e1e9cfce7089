/- For a region that draws its order: masks, orders, slots, the trace of the run. -/
import Derived.Test.YtlnjikneepgpaaaEvDraw0
namespace Go.Proofs.Ytlnjikneepgpaaa.Fast
section
variable {π : Nat → Value} {B : Bd} {P : Program}

theorem get_set_ne {α : Type} (d : Nat) : ∀ (k j : Nat) (t : PT α d) (v : α), j ≠ k → (getc d j).run ((setc d k).run t v) = (getc d j).run t := by
  induction d with
  | zero =>
    intro k j t v h
    cases j with
    | zero => cases k with
      | zero => exact absurd rfl h
      | succ k => rfl
    | succ j => rfl
  | succ d ih =>
    intro k j t v h
    have hk : k % 8 < 8 := Nat.mod_lt _ (by decide)
    have hj : j % 8 < 8 := Nat.mod_lt _ (by decide)
    show (getW (getc d (j / 8)).run (j % 8)).run ((setW (setc d (k / 8)).run (k % 8)).run t v) = (getW (getc d (j / 8)).run (j % 8)).run t
    rcases getW_setW (getc d (j / 8)).run (setc d (k / 8)).run (j % 8) (k % 8) hj hk t v with ⟨e, x, e1, e2⟩ | ⟨e, e1⟩
    · rw [e1, e2]; exact ih _ _ _ _ (by omega)
    · exact e1

theorem get_set_eq {α : Type} (d : Nat) : ∀ (k : Nat) (t t' : PT α d) (v : α), (getc d k).run ((setc d k).run t v) = (getc d k).run ((setc d k).run t' v) := by
  induction d with
  | zero => intro k t t' v; cases k <;> rfl
  | succ d ih =>
    intro k t t' v
    have hk : k % 8 < 8 := Nat.mod_lt _ (by decide)
    show (getW (getc d (k / 8)).run (k % 8)).run ((setW (setc d (k / 8)).run (k % 8)).run t v) = (getW (getc d (k / 8)).run (k % 8)).run ((setW (setc d (k / 8)).run (k % 8)).run t' v)
    rcases getW_setW (getc d (k / 8)).run (setc d (k / 8)).run (k % 8) (k % 8) hk hk t v with ⟨e, x, e1, _⟩ | ⟨e, _⟩
    · rcases getW_setW (getc d (k / 8)).run (setc d (k / 8)).run (k % 8) (k % 8) hk hk t' v with ⟨_, y, e3, _⟩ | ⟨e, _⟩
      · rw [e1, e3]; exact ih _ _ _ _
      · exact absurd rfl e
    · exact absurd rfl e

/- lists -/
theorem filt_mem {α : Type} {p : α → Bool} {x : α} : ∀ {l : List α}, x ∈ filt p l ↔ x ∈ l ∧ p x = true
  | [] => by show x ∈ [] ↔ _; simp
  | a :: l => by
    have ih := filt_mem (p := p) (x := x) (l := l)
    have hu : filt p (a :: l) = Bool.rec (filt p l) (a :: filt p l) (p a) := rfl
    rw [hu]
    cases h : p a with
    | true =>
      show x ∈ a :: filt p l ↔ _
      simp only [List.mem_cons, ih]
      constructor
      · rintro (rfl | ⟨h1, h2⟩)
        · exact ⟨.inl rfl, h⟩
        · exact ⟨.inr h1, h2⟩
      · rintro ⟨rfl | h1, h2⟩
        · exact .inl rfl
        · exact .inr ⟨h1, h2⟩
    | false =>
      show x ∈ filt p l ↔ _
      simp only [List.mem_cons, ih]
      constructor
      · rintro ⟨h1, h2⟩; exact ⟨.inr h1, h2⟩
      · rintro ⟨rfl | h1, h2⟩
        · rw [h] at h2; simp at h2
        · exact ⟨h1, h2⟩

theorem alls_mem {α : Type} {p : α → Bool} : ∀ {l : List α}, alls p l = true → ∀ x ∈ l, p x = true
  | [], _, _, h => by simp at h
  | a :: l, h, x, hx => by
    obtain ⟨h1, h2⟩ := band_true (show band (p a) (alls p l) = true from h)
    cases hx with
    | head => exact h1
    | tail _ hm => exact alls_mem h2 x hm

theorem memb_iff {t : Nat} : ∀ {l : List Nat}, memb l t = true ↔ t ∈ l
  | [] => by show false = true ↔ _; simp
  | a :: l => by
    have ih := memb_iff (t := t) (l := l)
    show bor (Nat.beq a t) (memb l t) = true ↔ _
    rw [List.mem_cons, ← ih]
    constructor
    · intro h
      rcases bor_true h with h | h
      · exact .inl (Nat.eq_of_beq_eq_true h).symm
      · exact .inr h
    · rintro (rfl | h)
      · simp [bor]
      · rw [h]; cases Nat.beq a t <;> rfl

theorem order_mem {x : It} : ∀ {acts left : List It}, x ∈ order acts left ↔ x ∈ acts ∨ x ∈ left
  | [], left => by show x ∈ left ↔ _; simp
  | a :: acts, left => by
    have ih := order_mem (x := x) (acts := acts) (left := filt (fun x => bnot (has a.m x.i)) left)
    show x ∈ app (filt (fun x => has a.m x.i) left) (a :: order acts (filt (fun x => bnot (has a.m x.i)) left)) ↔ _
    rw [app_eq, List.mem_append, List.mem_cons, ih, filt_mem, filt_mem, List.mem_cons]
    constructor
    · rintro (⟨h, _⟩ | rfl | h | ⟨h, _⟩)
      · exact .inr h
      · exact .inl (.inl rfl)
      · exact .inl (.inr h)
      · exact .inr h
    · rintro ((rfl | h) | h)
      · exact .inr (.inl rfl)
      · exact .inr (.inr (.inl h))
      · cases hh : has a.m x.i with
        | true => exact .inl ⟨h, rfl⟩
        | false => exact .inr (.inr (.inr ⟨h, by rw [bnot_eq]; rfl⟩))

theorem items_mem {ms : List Nat} {x : It} : ∀ {l : List Oper} {i : Nat}, x ∈ items P ms l i ↔ ∃ j o, l[j]? = some o ∧ x = ⟨i + j, kindO P o, Option.rec 0 (fun m => m) (nth ms (i + j)), o⟩
  | [], i => by show x ∈ [] ↔ _; simp
  | o :: l, i => by
    have ih := items_mem (ms := ms) (x := x) (l := l) (i := i + 1)
    show x ∈ (⟨i, kindO P o, Option.rec 0 (fun m => m) (nth ms i), o⟩ :: items P ms l (i + 1)) ↔ _
    rw [List.mem_cons, ih]
    constructor
    · rintro (rfl | ⟨j, o', h1, h2⟩)
      · exact ⟨0, o, rfl, rfl⟩
      · exact ⟨j + 1, o', by simpa using h1, by rw [h2, show i + 1 + j = i + (j + 1) by omega]⟩
    · rintro ⟨j, o', h1, h2⟩
      cases j with
      | zero => simp at h1; subst h1; exact .inl h2
      | succ j => exact .inr ⟨j, o', by simpa using h1, by rw [h2, show i + 1 + j = i + (j + 1) by omega]⟩

/- masks -/
theorem maskE_bit {acc : List Nat} {i : Nat} : ∀ {es : List Edge}, Nat.testBit (maskE acc es) i = true ↔ ∃ e ∈ es, Region.binds .any e = true ∧ (e.on = i ∨ Nat.testBit (Option.rec 0 (fun m => m) (nth acc e.on)) i = true)
  | [] => by show Nat.testBit 0 i = true ↔ _; simp
  | e :: es => by
    have ih := maskE_bit (acc := acc) (i := i) (es := es)
    have hu : maskE acc (e :: es) = Bool.rec (maskE acc es) (Nat.lor (Nat.pow 2 e.on) (Nat.lor (Option.rec 0 (fun m => m) (nth acc e.on)) (maskE acc es))) (Region.binds .any e) := rfl
    rw [hu]
    cases hb : Region.binds .any e with
    | false =>
      show Nat.testBit (maskE acc es) i = true ↔ _
      rw [ih]
      constructor
      · rintro ⟨e', h1, h2⟩; exact ⟨e', by simp [h1], h2⟩
      · rintro ⟨e', h1, h2, h3⟩
        rcases List.mem_cons.1 h1 with rfl | h1
        · rw [hb] at h2; simp at h2
        · exact ⟨e', h1, h2, h3⟩
    | true =>
      show Nat.testBit (2 ^ e.on ||| (Option.rec 0 (fun m => m) (nth acc e.on) ||| maskE acc es)) i = true ↔ _
      rw [Nat.testBit_or, Nat.testBit_or, Nat.testBit_two_pow, Bool.or_eq_true, Bool.or_eq_true, ih, decide_eq_true_eq]
      constructor
      · rintro (h | h | ⟨e', h1, h2⟩)
        · exact ⟨e, by simp, hb, .inl h⟩
        · exact ⟨e, by simp, hb, .inr h⟩
        · exact ⟨e', by simp [h1], h2⟩
      · rintro ⟨e', h1, h2, h3⟩
        rcases List.mem_cons.1 h1 with rfl | h1
        · rcases h3 with h3 | h3
          · exact .inl h3
          · exact .inr (.inl h3)
        · exact .inr (.inr ⟨e', h1, h2, h3⟩)

theorem masks_pre : ∀ (l : List Oper) (acc : List Nat), ∃ t, masks l acc = acc ++ t
  | [], acc => ⟨[], by simp; rfl⟩
  | o :: l, acc => by
    obtain ⟨t, h⟩ := masks_pre l (app acc [maskE acc o.after.toList])
    rw [app_eq] at h
    exact ⟨maskE acc o.after.toList :: t, by show masks l (app acc [maskE acc o.after.toList]) = _; rw [app_eq, h]; simp⟩

theorem masks_get : ∀ (l : List Oper) (acc : List Nat) (j : Nat) (o : Oper), l[j]? = some o → (masks l acc)[acc.length + j]? = some (maskE ((masks l acc).take (acc.length + j)) o.after.toList)
  | [], _, j, o, h => by simp at h
  | o' :: l, acc, j, o, h => by
    have hu : masks (o' :: l) acc = masks l (app acc [maskE acc o'.after.toList]) := rfl
    cases j with
    | zero =>
      simp at h; subst h
      obtain ⟨t, ht⟩ := masks_pre l (app acc [maskE acc o'.after.toList])
      rw [hu, ht, app_eq]
      simp
    | succ j =>
      have ih := masks_get l (app acc [maskE acc o'.after.toList]) j o (by simpa using h)
      rw [app_eq] at ih
      rw [hu, app_eq]
      simpa [Nat.add_assoc, Nat.add_comm 1 j] using ih

/-- the mask of an operation -/
noncomputable def M (all : List Oper) (j : Nat) : Nat := Option.rec 0 (fun m => m) (nth (masks all []) j)

theorem M_bit {all : List Oper} {j i : Nat} {o : Oper} (ho : all[j]? = some o) (h : Nat.testBit (M all j) i = true) : ∃ e ∈ o.after.toList, Region.binds .any e = true ∧ (e.on = i ∨ Nat.testBit (M all e.on) i = true) := by
  have hg := masks_get all [] j o ho
  simp only [List.length_nil, Nat.zero_add] at hg
  have hM : M all j = maskE ((masks all []).take j) o.after.toList := by unfold M; rw [nth_eq, hg]
  rw [hM, maskE_bit] at h
  obtain ⟨e, h1, h2, h3⟩ := h
  refine ⟨e, h1, h2, h3.imp id fun h3 => ?_⟩
  rw [nth_eq, List.getElem?_take] at h3
  split at h3
  · unfold M; rw [nth_eq]; exact h3
  · simp at h3

theorem M_edge {all : List Oper} {j : Nat} {o : Oper} (ho : all[j]? = some o) {e : Edge} (he : e ∈ o.after.toList) (hb : Region.binds .any e = true) : Nat.testBit (M all j) e.on = true := by
  have hg := masks_get all [] j o ho
  simp only [List.length_nil, Nat.zero_add] at hg
  have hM : M all j = maskE ((masks all []).take j) o.after.toList := by unfold M; rw [nth_eq, hg]
  rw [hM, maskE_bit]
  exact ⟨e, he, hb, .inl rfl⟩

/- slots -/
theorem tmpsOf_mem {t : Nat} : ∀ {l : List Operand}, Operand.tmp t ∈ l → t ∈ tmpsOf l
  | [], h => by simp at h
  | x :: l, h => by
    rcases List.mem_cons.1 h with rfl | h
    · exact List.mem_cons_self
    · have := tmpsOf_mem h
      cases x with
      | tmp u => exact List.mem_cons_of_mem _ this
      | _ => exact this

theorem looks_tmps {all : List Oper} {o : Oper} {t : Nat} (h : t ∈ tmpsOf o.op.operands.toList) : t ∈ looks all o := by
  unfold looks
  split
  · exact h
  · split
    · exact List.mem_cons_of_mem _ h
    · exact h

theorem agree_of {env env' : Env} {o : Oper} (h : ∀ t ∈ tmpsOf o.op.operands.toList, env.get t = env'.get t) : Agree env env' o.op.operands.toList := by
  intro x hx
  cases x with
  | tmp t => exact h t (tmpsOf_mem hx)
  | _ => rfl

theorem want_congr {all : List Oper} {env env' : Env} {o : Oper} (h : ∀ t ∈ looks all o, env.get t = env'.get t) : (wantC all o).run env = (wantC all o).run env' := by
  unfold wantC
  unfold looks at h
  split
  · rfl
  · rename_i j want hg
    rw [hg] at h
    dsimp only at h
    split
    · rename_i d hd
      rw [hd] at h
      show obind (env.get d) (isB want) = obind (env'.get d) (isB want)
      rw [h d (by simp)]
    · rfl

end
end Go.Proofs.Ytlnjikneepgpaaa.Fast
