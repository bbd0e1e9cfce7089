/- Plain laws of the second run's lists, tables and texts. -/
import Derived.Test.YtlnjikneepgpaaaEvDef
namespace Go.Proofs.Ytlnjikneepgpaaa.Fast

theorem nth_eq {α : Type} (l : List α) : ∀ n, nth l n = l[n]? := by
  induction l with
  | nil => intro n; rfl
  | cons a t ih => intro n; cases n with
    | zero => rfl
    | succ n => exact ih n

theorem drop_eq {α : Type} (l : List α) : ∀ n, drop l n = l.drop n := by
  induction l with
  | nil => intro n; simp; rfl
  | cons a t ih => intro n; cases n with
    | zero => rfl
    | succ n => exact ih n

theorem obind_some {α β : Type} {o : Option α} {f : α → Option β} {b : β} (h : obind o f = some b) : ∃ a, o = some a ∧ f a = some b := by
  cases o with
  | none => exact absurd h (by simp [obind])
  | some a => exact ⟨a, rfl, h⟩

theorem oif_some {α : Type} {c : Bool} {x : Option α} {b : α} (h : oif c x = some b) : c = true ∧ x = some b := by
  cases c with
  | false => exact absurd h (by simp [oif])
  | true => exact ⟨rfl, h⟩

theorem band_true {a b : Bool} (h : band a b = true) : a = true ∧ b = true := by
  cases a <;> cases b <;> simp [band] at h ⊢

theorem bor_true {a b : Bool} (h : bor a b = true) : a = true ∨ b = true := by
  cases a <;> cases b <;> simp [bor] at h ⊢

theorem bnot_eq (b : Bool) : bnot b = !b := by cases b <;> rfl
theorem beqB_eq (a b : Bool) : beqB a b = (a == b) := by cases a <;> cases b <;> rfl

theorem takeN_some {α : Type} (l : List α) : ∀ {n m}, takeN l n = some m → n ≤ l.length ∧ m = l.take n := by
  induction l with
  | nil => intro n m h; cases n with
    | zero => exact ⟨Nat.le_refl _, (Option.some.inj h).symm⟩
    | succ n => exact absurd h (by simp [takeN])
  | cons a t ih => intro n m h; cases n with
    | zero => exact ⟨Nat.zero_le _, (Option.some.inj h).symm⟩
    | succ n =>
      obtain ⟨l, h1, h2⟩ := obind_some (show obind (takeN t n) (fun l => some (a :: l)) = some m from h)
      obtain ⟨h3, rfl⟩ := ih h1
      obtain rfl := Option.some.inj h2
      exact ⟨by simpa using h3, rfl⟩

theorem len_eq {α : Type} (l : List α) : len l = l.length := by
  induction l with
  | nil => rfl
  | cons a t ih => show Nat.succ (len t) = _; rw [ih]; rfl

theorem app_eq {α : Type} (l m : List α) : app l m = l ++ m := by
  induction l with
  | nil => rfl
  | cons a t ih => show a :: app t m = _; rw [ih]; rfl

theorem sub_some {α : Type} {l m : List α} {off n : Nat} (h : sub l off n = some m) : m.length = n ∧ ∀ i, i < n → ∃ v, l[off + i]? = some v ∧ m[i]? = some v := by
  unfold sub at h
  obtain ⟨h1, rfl⟩ := takeN_some _ h
  rw [drop_eq] at *
  refine ⟨by simp at h1 ⊢; omega, fun i hi => ?_⟩
  have hl : off + i < l.length := by simp at h1; omega
  exact ⟨l[off + i], by simp [hl], by simp [hi, List.getElem?_drop, hl]⟩

theorem overH_some {α : Type} (new : List α) : ∀ {l m : List α}, overH new l = some m → new.length ≤ l.length ∧ m.length = l.length ∧ ∀ i, m[i]? = if i < new.length then new[i]? else l[i]? := by
  induction new with
  | nil => intro l m h; obtain rfl := Option.some.inj h; exact ⟨Nat.zero_le _, rfl, fun i => by simp⟩
  | cons x xs ih => intro l m h; cases l with
    | nil => exact absurd h (by simp [overH])
    | cons a t =>
      obtain ⟨l', h1, h2⟩ := obind_some (show obind (overH xs t) (fun l => some (x :: l)) = some m from h)
      obtain rfl := Option.some.inj h2
      obtain ⟨e1, e2, e3⟩ := ih h1
      refine ⟨by simpa using e1, by simpa using e2, fun i => ?_⟩
      cases i with
      | zero => simp
      | succ i => simpa using e3 i

theorem over_some {α : Type} (new : List α) (l : List α) : ∀ {off : Nat} {m : List α}, over new l off = some m →
    off + new.length ≤ l.length ∧ m.length = l.length ∧ ∀ i, m[i]? = if off ≤ i ∧ i < off + new.length then new[i - off]? else l[i]? := by
  induction l with
  | nil => intro off m h; cases off with
    | zero =>
      obtain ⟨e1, e2, e3⟩ := overH_some new (show overH new [] = some m from h)
      exact ⟨by simpa using e1, e2, fun i => by simpa using e3 i⟩
    | succ n => exact absurd h (by simp [over])
  | cons a t ih => intro off m h; cases off with
    | zero =>
      obtain ⟨e1, e2, e3⟩ := overH_some new (show overH new (a :: t) = some m from h)
      exact ⟨by simpa using e1, e2, fun i => by simpa using e3 i⟩
    | succ n =>
      obtain ⟨l', h1, h2⟩ := obind_some (show obind (over new t n) (fun l => some (a :: l)) = some m from h)
      obtain rfl := Option.some.inj h2
      obtain ⟨e1, e2, e3⟩ := ih h1
      refine ⟨by simp; omega, by simpa using e2, fun i => ?_⟩
      cases i with
      | zero => simp
      | succ i =>
        have := e3 i
        simp only [List.getElem?_cons_succ, this]
        by_cases hc : n ≤ i ∧ i < n + new.length
        · rw [if_pos hc, if_pos (by omega)]; congr 1; omega
        · rw [if_neg hc, if_neg (by omega)]

theorem rep_length {α : Type} (l : List α) (n : Nat) : (rep l n).length = n * l.length := by
  induction n with
  | zero => simp; rfl
  | succ n ih => show (app l (rep l n)).length = _; rw [app_eq, List.length_append, ih, Nat.succ_mul, Nat.add_comm]

theorem rep_get {α : Type} (l : List α) (n : Nat) : ∀ i, i < n * l.length → (rep l n)[i]? = l[i % l.length]? := by
  induction n with
  | zero => intro i h; omega
  | succ n ih =>
    intro i h
    show (app l (rep l n))[i]? = _
    rw [app_eq]
    by_cases hl : i < l.length
    · rw [List.getElem?_append_left hl, Nat.mod_eq_of_lt hl]
    · rw [List.getElem?_append_right (by omega), ih _ (by rw [Nat.succ_mul] at h; omega), ← Nat.mod_eq_sub_mod (by omega)]

/- tables -/
theorem getW_setW {β γ δ : Type} (g : β → δ) (s : β → γ → β) (m m' : Nat) (hm : m < 8) (hm' : m' < 8) (t : N8 β) (v : γ) :
    (m = m' ∧ ∃ x, (getW g m).run ((setW s m').run t v) = g (s x v) ∧ (getW g m).run t = g x) ∨ (m ≠ m' ∧ (getW g m).run ((setW s m').run t v) = (getW g m).run t) := by
  obtain ⟨a0, a1, a2, a3, a4, a5, a6, a7⟩ := t
  rcases m with _ | _ | _ | _ | _ | _ | _ | _ | m <;> rcases m' with _ | _ | _ | _ | _ | _ | _ | _ | m' <;>
    first | exact .inl ⟨rfl, _, rfl, rfl⟩ | exact .inr ⟨by omega, rfl⟩ | omega

theorem get_set {α : Type} (d : Nat) : ∀ (k j : Nat) (t : PT α d) (v u : α), (getc d j).run ((setc d k).run t v) = some u → (j = k ∧ u = v) ∨ (j ≠ k ∧ (getc d j).run t = some u) := by
  induction d with
  | zero =>
    intro k j t v u h
    cases j with
    | zero => cases k with
      | zero => exact .inl ⟨rfl, (Option.some.inj h).symm⟩
      | succ k => exact .inr ⟨by omega, h⟩
    | succ j => exact absurd h (by simp [getc])
  | succ d ih =>
    intro k j t v u h
    have hk : k % 8 < 8 := Nat.mod_lt _ (by decide)
    have hj : j % 8 < 8 := Nat.mod_lt _ (by decide)
    have h' : (getW (getc d (j / 8)).run (j % 8)).run ((setW (setc d (k / 8)).run (k % 8)).run t v) = some u := h
    show _ ∨ (_ ∧ (getW (getc d (j / 8)).run (j % 8)).run t = some u)
    rcases getW_setW (getc d (j / 8)).run (setc d (k / 8)).run (j % 8) (k % 8) hj hk t v with ⟨e, x, e1, e2⟩ | ⟨e, e1⟩
    · rw [e1] at h'
      rcases ih _ _ _ _ _ h' with ⟨e3, e4⟩ | ⟨e3, e4⟩
      · exact .inl ⟨by omega, e4⟩
      · exact .inr ⟨by omega, by rw [e2]; exact e4⟩
    · rw [e1] at h'
      exact .inr ⟨fun e3 => e (by rw [e3]), h'⟩

theorem getW_same {β γ : Type} (g : β → γ) (m : Nat) (x : β) : (getW g m).run ⟨x, x, x, x, x, x, x, x⟩ = g x := by
  rcases m with _ | _ | _ | _ | _ | _ | _ | m <;> rfl

theorem get_emp {α : Type} (d : Nat) : ∀ k, (getc d k).run (empT d : PT α d) = none := by
  induction d with
  | zero => intro k; cases k <;> rfl
  | succ d ih => intro k; exact (getW_same (getc d (k / 8)).run (k % 8) (empT d)).trans (ih _)

theorem even_true {k : Nat} (h : even k = true) : k % 2 = 0 := Nat.eq_of_beq_eq_true h
theorem even_false {k : Nat} (h : even k = false) : k % 2 = 1 := by
  have : k % 2 ≠ 0 := Nat.ne_of_beq_eq_false h
  omega

theorem Tr.get_e {α : Type} (k : Nat) : (Tr.e : Tr α).get k = none := rfl

theorem Tr.get_n {α : Type} (v : Option α) (l r : Tr α) (k : Nat) : (Tr.n v l r).get (k + 1) = if k % 2 = 0 then l.get (k / 2) else r.get (k / 2) := by
  show pick k (fun j => l.get j) (fun j => r.get j) = _
  unfold pick
  cases h : even k with
  | true => rw [if_pos (even_true h)]; rfl
  | false => rw [if_neg (by have := even_false h; omega)]; rfl

theorem Tr.get_set {α : Type} (x : α) (f : Nat) : ∀ (t : Tr α) (k j : Nat) (u : α), (t.set x f k).get j = some u → (j = k ∧ u = x) ∨ (j ≠ k ∧ t.get j = some u) := by
  induction f with
  | zero => intro t k j u h; exact absurd (show (none : Option α) = some u from h) (by simp)
  | succ f ih =>
    have hstep : ∀ (v : Option α) (l r : Tr α) (k j : Nat) (u : α), (pick k (fun q => Tr.n v (l.set x f q) r) (fun q => Tr.n v l (r.set x f q))).get j = some u →
        (j = k + 1 ∧ u = x) ∨ (j ≠ k + 1 ∧ (Tr.n v l r).get j = some u) := by
      intro v l r k j u hp
      unfold pick at hp
      cases j with
      | zero =>
        right
        refine ⟨by omega, ?_⟩
        cases h2 : even k <;> rw [h2] at hp <;> exact hp
      | succ j =>
        cases h2 : even k with
        | true =>
          rw [h2] at hp
          have e2 := even_true h2
          have hp : (Tr.n v (l.set x f (k / 2)) r).get (j + 1) = some u := hp
          rw [Tr.get_n] at hp ⊢
          by_cases hj : j % 2 = 0
          · rw [if_pos hj] at hp ⊢
            rcases ih _ _ _ _ hp with ⟨a, b⟩ | ⟨a, b⟩
            · exact .inl ⟨by omega, b⟩
            · exact .inr ⟨by omega, b⟩
          · rw [if_neg hj] at hp ⊢
            exact .inr ⟨by omega, hp⟩
        | false =>
          rw [h2] at hp
          have e2 := even_false h2
          have hp : (Tr.n v l (r.set x f (k / 2))).get (j + 1) = some u := hp
          rw [Tr.get_n] at hp ⊢
          by_cases hj : j % 2 = 0
          · rw [if_pos hj] at hp ⊢
            exact .inr ⟨by omega, hp⟩
          · rw [if_neg hj] at hp ⊢
            rcases ih _ _ _ _ hp with ⟨a, b⟩ | ⟨a, b⟩
            · exact .inl ⟨by omega, b⟩
            · exact .inr ⟨by omega, b⟩
    intro t k j u h
    cases t with
    | e =>
      cases k with
      | zero =>
        cases j with
        | zero => exact .inl ⟨rfl, (Option.some.inj h).symm⟩
        | succ j =>
          have h2 : (Tr.n (some x) Tr.e Tr.e).get (j + 1) = some u := h
          rw [Tr.get_n] at h2
          simp [Tr.get_e] at h2
      | succ k =>
        have none_e : ∀ j, (Tr.n none (Tr.e : Tr α) Tr.e).get j = none := fun j => by
          cases j with
          | zero => rfl
          | succ j => rw [Tr.get_n]; simp [Tr.get_e]
        have h2 := hstep none .e .e k j u h
        rw [none_e] at h2
        rcases h2 with h2 | ⟨_, h2⟩
        · exact .inl h2
        · exact absurd h2 (by simp)
    | n v l r =>
      cases k with
      | zero =>
        cases j with
        | zero => exact .inl ⟨rfl, (Option.some.inj h).symm⟩
        | succ j =>
          have h2 : (Tr.n (some x) l r).get (j + 1) = some u := h
          rw [Tr.get_n] at h2
          exact .inr ⟨by omega, by rw [Tr.get_n]; exact h2⟩
      | succ k => exact hstep v l r k j u h

theorem Heap.get_put {H : Heap} {b j : Nat} {o u : Obj} (h : (H.put b o).get j = some u) : (j = b ∧ u = o) ∨ (j ≠ b ∧ H.get j = some u) :=
  Tr.get_set o 40 H.bl b j u h
theorem Heap.get_new {H : Heap} {j : Nat} {o u : Obj} (h : (H.new o).get j = some u) : (j = H.next ∧ u = o) ∨ (j ≠ H.next ∧ H.get j = some u) :=
  Tr.get_set o 40 H.bl H.next j u h

/- texts -/
theorem bitsOf_lt (l : List UInt8) : bitsOf l < 256 ^ l.length := by
  induction l with
  | nil => simp [bitsOf]
  | cons b t ih =>
    simp only [bitsOf, List.length_cons, Nat.pow_succ]
    have := b.toNat_lt
    omega

theorem bitsOf_append (a b : List UInt8) : bitsOf (a ++ b) = bitsOf a + bitsOf b * 256 ^ a.length := by
  induction a with
  | nil => simp [bitsOf]
  | cons x t ih =>
    simp only [List.cons_append, bitsOf, List.length_cons, Nat.pow_succ, ih]
    rw [Nat.mul_add, Nat.add_assoc]
    congr 2
    rw [Nat.mul_comm (256 ^ t.length) 256, ← Nat.mul_assoc, ← Nat.mul_assoc, Nat.mul_comm 256 (bitsOf b)]

theorem bitsOf_inj : ∀ (a b : List UInt8), a.length = b.length → bitsOf a = bitsOf b → a = b := by
  intro a
  induction a with
  | nil => intro b h _; exact (List.length_eq_zero_iff.1 h.symm).symm
  | cons x t ih =>
    intro b h e
    cases b with
    | nil => simp at h
    | cons y u =>
      simp only [bitsOf] at e
      have hx := x.toNat_lt
      have hy := y.toNat_lt
      have e1 : x.toNat = y.toNat := by omega
      have e2 : bitsOf t = bitsOf u := by omega
      rw [ih u (by simpa using h) e2, UInt8.toNat_inj.1 e1]

theorem bitsOf_drop (l : List UInt8) : ∀ n, bitsOf (l.drop n) = bitsOf l / 256 ^ n := by
  induction l with
  | nil => intro n; simp [bitsOf]
  | cons b t ih =>
    intro n
    cases n with
    | zero => simp
    | succ n =>
      simp only [List.drop_succ_cons, bitsOf, ih, Nat.pow_succ]
      rw [Nat.mul_comm (256 ^ n) 256, ← Nat.div_div_eq_div_mul]
      have := b.toNat_lt
      congr 1
      omega

theorem bitsOf_take (l : List UInt8) : ∀ n, bitsOf (l.take n) = bitsOf l % 256 ^ n := by
  induction l with
  | nil => intro n; simp [bitsOf]
  | cons b t ih =>
    intro n
    cases n with
    | zero => simp [bitsOf, Nat.mod_one]
    | succ n =>
      simp only [List.take_succ_cons, bitsOf, ih, Nat.pow_succ]
      have hb := b.toNat_lt
      rw [Nat.mul_comm (256 ^ n) 256, Nat.mod_mul]
      have e1 : (b.toNat + 256 * bitsOf t) % 256 = b.toNat := by omega
      have e2 : (b.toNat + 256 * bitsOf t) / 256 = bitsOf t := by omega
      rw [e1, e2]

theorem bitsOf_get (l : List UInt8) (i : Nat) (h : i < l.length) : bitsOf l / 256 ^ i % 256 = l[i].toNat := by
  rw [← bitsOf_drop]
  rw [List.drop_eq_getElem_cons h]
  simp only [bitsOf]
  have := l[i].toNat_lt
  omega

theorem strOf_some : ∀ {cs : List AV} {bits : Nat}, strOf cs = some bits → ∃ bs : List UInt8, cs = bs.map (fun b => AV.int .u8 (.ofNat b.toNat)) ∧ bits = bitsOf bs
  | [], bits, h => ⟨[], rfl, (Option.some.inj (show some 0 = some bits from h)).symm⟩
  | v :: cs, bits, h => by
    obtain ⟨n, h1, h2⟩ := obind_some (show obind (byteA v) (fun n => obind (strOf cs) fun m => some (Nat.add n (Nat.mul 256 m))) = some bits from h)
    obtain ⟨m, h3, h4⟩ := obind_some h2
    obtain rfl := Option.some.inj h4
    obtain ⟨bs, rfl, rfl⟩ := strOf_some h3
    unfold byteA at h1
    split at h1
    · rename_i k
      obtain ⟨g1, g2⟩ := oif_some h1
      obtain rfl := Option.some.inj g2
      have hn : k < 256 := by simp [Nat.blt] at g1; omega
      refine ⟨k.toUInt8 :: bs, ?_, ?_⟩
      · simp [Nat.mod_eq_of_lt hn]
      · show k + 256 * bitsOf bs = (k.toUInt8).toNat + 256 * bitsOf bs
        simp [Nat.mod_eq_of_lt hn]
    · simp at h1


end Go.Proofs.Ytlnjikneepgpaaa.Fast
