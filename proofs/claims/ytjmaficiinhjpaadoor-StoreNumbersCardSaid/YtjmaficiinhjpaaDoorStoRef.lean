/- the reference's store (wainwrightref17): what stands in memory; at, digits, SameVars walked. -/
import Derived.Test.YtjmaficiinhjpaaDoorStoSt
import Derived.Deep.QuietTactic
import Derived.BigQuiet
import Derived.IntWalk
namespace Go.Proofs.YtjmaficiinhjpaaDoor.G
open Go.RowKit Go.Maps Go.WideMaps Go.Sort

/-- Read where B says. -/
def Rd (w : World) (B : Nat → Prop) (A : Option Addr) (m sz : Nat) (xs : List Value) : Prop := Src w A m sz xs ∧ (0 < m → ∀ a, A = some a → B a.block)
theorem Rd.kept {w w' : World} {B P : Nat → Prop} {A : Option Addr} {m sz : Nat} {xs : List Value} (h : Rd w B A m sz xs) (hA : Apart P w w') (hP : ∀ k, P k → ¬ B k) : Rd w' B A m sz xs := by
  refine ⟨⟨h.1.1, fun hp => ?_⟩, h.2⟩
  obtain ⟨b, off, rfl, hb, hc⟩ := h.1.2 hp
  exact ⟨b, off, rfl, Nat.lt_of_lt_of_le hb hA.size, fun j u hu => (World.cell?_of_block (a := ⟨b, off + j, none⟩) (hA.block b hb (fun hk => hP b hk (h.2 hp _ rfl)))).trans (hc j u hu)⟩
theorem Rd.mono {w : World} {B B' : Nat → Prop} {A : Option Addr} {m sz : Nat} {xs : List Value} (h : Rd w B A m sz xs) (hB : ∀ k, B k → B' k) : Rd w B' A m sz xs := ⟨h.1, fun hp a e => hB _ (h.2 hp a e)⟩
theorem src_vars {w : World} {A : Option Addr} {l : List Vr} (h : Src w A l.length 4 (varsV l)) : VarsAt w A l := by
  intro hp
  obtain ⟨b, off, rfl, hb, hc⟩ := h.2 hp
  refine ⟨b, off, rfl, hb, fun j v hj => ?_⟩
  have h4 := varsV_at l j v hj
  have e : ∀ c, off + j * 4 + c = off + (j * 4 + c) := fun c => by omega
  exact ⟨by have := hc _ _ ((h4 0 (by omega)).trans rfl); exact this, by have := hc _ _ ((h4 1 (by omega)).trans rfl); rw [e]; exact this, by have := hc _ _ ((h4 2 (by omega)).trans rfl); rw [e]; exact this, by have := hc _ _ ((h4 3 (by omega)).trans rfl); rw [e]; exact this⟩
theorem vars_src {w : World} {A : Option Addr} {l : List Vr} (h : VarsAt w A l) : Src w A l.length 4 (varsV l) := by
  refine ⟨varsV_len l, fun hp => ?_⟩
  obtain ⟨b, off, rfl, hb, hc⟩ := h hp
  refine ⟨b, off, rfl, hb, fun i u hu => ?_⟩
  have hi : i < l.length * 4 := by have := (List.getElem?_eq_some_iff.mp hu).1; rwa [varsV_len] at this
  obtain ⟨h0, h1, h2, h3⟩ := hc (i / 4) _ (List.getElem?_eq_getElem (by omega))
  have h4 := varsV_at l (i / 4) _ (List.getElem?_eq_getElem (by omega)) (i % 4) (by omega)
  rw [show i / 4 * 4 + i % 4 = i by omega] at h4
  rw [hu] at h4
  have hr : i % 4 = 0 ∨ i % 4 = 1 ∨ i % 4 = 2 ∨ i % 4 = 3 := by omega
  rcases hr with hr | hr | hr | hr
  · rw [hr] at h4; rw [show off + i = off + i / 4 * 4 by omega, h0]; exact h4.symm
  · rw [hr] at h4; rw [show off + i = off + i / 4 * 4 + 1 by omega, h1]; exact h4.symm
  · rw [hr] at h4; rw [show off + i = off + i / 4 * 4 + 2 by omega, h2]; exact h4.symm
  · rw [hr] at h4; rw [show off + i = off + i / 4 * 4 + 3 by omega, h3]; exact h4.symm

/-! ### at -/
def atR : List Vr → ByteArray → Option Nat
  | [], _ => none
  | v :: l, x => match atR l x with
    | some k => some (k + 1)
    | none => if v.name = x then some 0 else none
theorem atR_snoc (l : List Vr) (v : Vr) (x : ByteArray) : atR (l ++ [v]) x = if v.name = x then some l.length else atR l x := by
  induction l with
  | nil => simp [atR]
  | cons u l ih =>
    rw [List.cons_append, atR, ih, atR]
    by_cases h : v.name = x
    · simp [h]
    · simp [h]
theorem atR_look (l : List Vr) (x : ByteArray) : (∀ k, atR l x = some k → ∃ v, l[k]? = some v ∧ lookL l x = some v) ∧ (atR l x = none → lookL l x = none) := by
  induction l with
  | nil => exact ⟨fun k h => (by cases h), fun _ => rfl⟩
  | cons u l ih =>
    rw [atR, lookL]
    cases h : atR l x with
    | some k =>
      obtain ⟨v, h1, h2⟩ := ih.1 k h
      simp only [h2]
      exact ⟨fun j hj => ⟨v, by obtain rfl := Option.some.inj hj; simpa using h1, rfl⟩, fun hh => by cases hh⟩
    | none =>
      simp only [ih.2 h]
      by_cases hu : u.name = x
      · simp only [if_pos hu]
        exact ⟨fun j hj => ⟨u, by obtain rfl := Option.some.inj hj; rfl, rfl⟩, fun hh => by cases hh⟩
      · simp only [if_neg hu]
        exact ⟨fun j hj => (by cases hj), fun _ => trivial⟩
def atI (l : List Vr) (x : ByteArray) : Int := match atR l x with | some k => (k : Int) | none => -1
set_option maxHeartbeats 1000000 in
theorem at_calls (l : List Vr) (A : Option Addr) (c : Nat) (x : ByteArray) (w : World) (hL : VarsAt w A l) (hl : l.length ≤ 1000000) :
    Calls Tryd.prog 37 #[.slice A l.length c, .string x] w fun e w' => e = .returned (.int .i64 (atI l x)) ∧ w = w' := by
  have HL := Lib.hid hL
  have HT : Hid (atR (l.take l.length) x = atR l x) := Lib.hid (by rw [List.take_length])
  clear hL
  go_enter Tryd.func37, Tryd.ntmps37
  go_wp2
  go_loop [5] (fun i => ∃ m : Nat, m ≤ l.length ∧ i = .int .i64 ((m : Int) - 1) ∧ Hid (atR (l.take m) x = atR l x)) (fun i => (intOf i + 1).toNat)
  case atStart => exact ⟨l.length, Nat.le_refl _, rfl, HT⟩
  case round =>
    obtain ⟨m, hm, rfl, HM⟩ := hrel
    cases m with
    | zero =>
      go_wp2
      go_ret
      have h := HM.out
      rw [List.take_zero] at h
      refine ⟨?_, rfl⟩
      unfold atI
      rw [← h]; rfl
    | succ m =>
      obtain ⟨v, hv⟩ : ∃ v, l[m]? = some v := ⟨_, List.getElem?_eq_getElem (by omega)⟩
      obtain ⟨b, off, rfl, hz, hc⟩ := HL.out (by omega)
      obtain ⟨h0, _⟩ := hc m v hv
      have HS := Lib.hid (atR_snoc (l.take m) v x)
      rw [← take_at hv] at HS
      have HML : Hid ((l.take m).length = m) := Lib.hid (by rw [List.length_take]; omega)
      have hi : (((m + 1 : Nat) : Int) - 1) = (m : Int) := by omega
      rw [hi]
      have hge : decide ((0 : Int) ≤ (m : Int)) = true := by simp
      have hlt0 : ¬ ((m : Int) < 0) := by omega
      clear hc hv
      by_cases hx : v.name = x
      · subst hx
        go_wp2
        go_ret
        have h := HM.out
        rw [HS.out, if_pos (by trivial), HML.out] at h
        refine ⟨?_, rfl⟩
        unfold atI
        rw [← h]; rfl
      · have hne : (v.name.toList == x.toList) = false := by
          rw [Bool.eq_false_iff]; intro hh
          exact hx (eq_toList (eq_of_beq hh))
        have hne2 : ¬ v.name.toList = x.toList := fun hh => hx (eq_toList hh)
        go_wp2
        go_round
        case rel => exact ⟨m, by omega, rfl, Lib.hid (by rw [← HM.out, HS.out, if_neg hx])⟩
        case measure => simp [intOf]

/-! ### digits -/
theorem digitsB_of {s : ByteArray} (h : ∀ j (hj : j < s.size), 48 ≤ s[j].toNat ∧ s[j].toNat ≤ 57) (hn : s ≠ ⟨#[]⟩) : digitsB s = true := by
  unfold digitsB
  have h1 : s.data.toList.isEmpty = false := by
    cases h : s.data.toList with
    | nil => exact absurd (show s = ⟨#[]⟩ by rcases s with ⟨a⟩; have : a = #[] := Array.toList_inj.mp (by simpa using h); rw [this]) hn
    | cons => rfl
  rw [h1]
  simp only [Bool.not_false, Bool.true_and, List.all_eq_true]
  intro u hu
  obtain ⟨j, hj, rfl⟩ := List.getElem_of_mem hu
  have hj' : j < s.size := by simpa using hj
  have := h j hj'
  have hs : s[j] = s.data.toList[j] := rfl
  rw [hs] at this
  generalize s.data.toList[j] = u at this
  obtain ⟨h2, h3⟩ := this
  have : u ∈ tenB := by
    have hu : u = UInt8.ofNat u.toNat := by simp
    have h4 : u.toNat = 48 ∨ u.toNat = 49 ∨ u.toNat = 50 ∨ u.toNat = 51 ∨ u.toNat = 52 ∨ u.toNat = 53 ∨ u.toNat = 54 ∨ u.toNat = 55 ∨ u.toNat = 56 ∨ u.toNat = 57 := by omega
    rcases h4 with h4 | h4 | h4 | h4 | h4 | h4 | h4 | h4 | h4 | h4 <;> (rw [hu, h4]; decide)
  simpa using this
theorem digitsB_not {s : ByteArray} {j : Nat} (hj : j < s.size) (h : s[j].toNat < 48 ∨ 57 < s[j].toNat) : digitsB s = false := by
  unfold digitsB
  rw [Bool.and_eq_false_iff]
  refine Or.inr ?_
  rw [List.all_eq_false]
  refine ⟨s.data.toList[j]'(by simpa using hj), List.getElem_mem _, ?_⟩
  have hs : s[j] = s.data.toList[j]'(by simpa using hj) := rfl
  rw [hs] at h
  generalize s.data.toList[j]'(by simpa using hj) = u at h
  intro hc
  have hm : u ∈ tenB := by simpa using hc
  simp only [tenB, List.mem_cons, List.not_mem_nil, or_false] at hm
  rcases hm with rfl | rfl | rfl | rfl | rfl | rfl | rfl | rfl | rfl | rfl <;> revert h <;> decide
set_option maxHeartbeats 1000000 in
theorem rdigits_calls (s : ByteArray) (w : World) (hs : s.size ≤ maxLen) :
    Calls Tryd.prog 38 #[.string s] w fun e w' => e = .returned (.bool (digitsB s)) ∧ w = w' := by
  unfold maxLen at hs
  go_enter Tryd.func38, Tryd.ntmps38
  go_wp2
  go_loop [3] (fun i => ∃ k : Nat, k ≤ s.size ∧ i = .int .i64 k ∧ Hid (∀ j (hj : j < s.size), j < k → 48 ≤ s[j].toNat ∧ s[j].toNat ≤ 57)) (fun i => s.size - (intOf i).toNat)
  case atStart => exact ⟨0, Nat.zero_le _, rfl, Lib.hid (fun j _ h => absurd h (by omega))⟩
  case round =>
    obtain ⟨k, hk, rfl, HK⟩ := hrel
    by_cases hlt : k < s.size
    · by_cases hin : 48 ≤ s[k].toNat ∧ s[k].toNat ≤ 57
      · obtain ⟨h1, h2⟩ := hin
        have HN : Hid (∀ j (hj : j < s.size), j < k + 1 → 48 ≤ s[j].toNat ∧ s[j].toNat ≤ 57) := Lib.hid (fun j hj h => by
          by_cases e : j = k
          · subst e; exact ⟨h1, h2⟩
          · exact HK.out j hj (by omega))
        have g1 : ¬ ((s[k].toNat : Int) < 48) := by omega
        have g2 : ¬ ((57 : Int) < (s[k].toNat : Int)) := by omega
        go_wp2
        go_round
        case rel => exact ⟨k + 1, by omega, by go_num, HN⟩
        case measure => simp [intOf]; omega
      · have hf := digitsB_not hlt (by omega)
        have HF := Lib.hid hf
        clear hf
        rcases (show s[k].toNat < 48 ∨ (48 ≤ s[k].toNat ∧ 57 < s[k].toNat) by omega) with h | ⟨h, h2⟩
        · have g1 : ((s[k].toNat : Int) < 48) := by omega
          go_wp2
          go_ret
          exact ⟨by rw [HF.out]; rfl, rfl⟩
        · have g1 : ¬ ((s[k].toNat : Int) < 48) := by omega
          have g2 : ((57 : Int) < (s[k].toNat : Int)) := by omega
          go_wp2
          go_ret
          exact ⟨by rw [HF.out]; rfl, rfl⟩
    · by_cases h0 : s = ⟨#[]⟩
      · subst h0
        go_wp2
        go_ret
        exact ⟨rfl, rfl⟩
      · have HF := Lib.hid (digitsB_of (fun j hj => HK.out j hj (by omega)) h0)
        have hne : (s.toList == []) = false := by
          rw [Bool.eq_false_iff]; intro hh
          exact h0 (eq_toList ((eq_of_beq hh).trans (Lib.toList_data ⟨#[]⟩).symm))
        have hne2 : ¬ s.toList = [] := fun hh => h0 (eq_toList (hh.trans (Lib.toList_data ⟨#[]⟩).symm))
        have hne3 : s.toList.isEmpty = false := by
          rw [Bool.eq_false_iff]; intro hh; exact hne2 (List.isEmpty_iff.mp hh)
        go_wp2
        go_ret
        exact ⟨by rw [HF.out]; rfl, rfl⟩
end Go.Proofs.YtjmaficiinhjpaaDoor.G
