/- wainwrightlaw05.ListsHalves: words by numbers, patterns by numbers. -/
import Derived.Test.YtlmabmpdbcgabaaListsAwake
import Derived.Test.YtlmabmpdbcgabaaOpenKd
namespace Go.Proofs.Ytlmabmpdbcgabaa.G
open Go.RowKit Go.Sort Go.Proofs.Ytlmabmpdbcgabaa.P Go.Proofs.YtlmabmpdbcgabaaW.PrintWords Go.Proofs.Ytlmabmpdbcgabaa.Pure

theorem place (a n : Int) (h0 : 0 < n) (h1 : n ≤ 4611686018427387904) : ∃ t, wainwrightlaw00_Place.f a n = some t ∧ 0 ≤ t ∧ t < n := by
  unfold wainwrightlaw00_Place.f
  rw [if_neg (by omega)]
  have hl := Int.tmod_lt_of_pos a h0
  have hg := Int.lt_tmod_of_pos a h0
  generalize Int.tmod a n = m at hl hg
  by_cases h : m < 0
  · rw [if_pos h]
    exact ⟨_, rfl, by unfold wrap64; omega, by unfold wrap64; omega⟩
  · rw [if_neg h]
    exact ⟨_, rfl, by omega, hl⟩
theorem place_any (a m : Int) (h0 : 0 < m) (h1 : m ≤ 4611686018427387904) (w : World) :
    Calls Try.prog 21 #[.int .i64 a, .int .i64 m] w fun e w' => ∃ t : Nat, (t : Int) < m ∧ e = .returned (.int .i64 t) ∧ Below w.heap.size w w' := by
  obtain ⟨t, ht, t0, t1⟩ := place a m h0 h1
  refine (wainwrightlaw00_Place.calls a m t w ht).mono ?_
  rintro e w' ⟨rfl, nd, rfl⟩
  refine ⟨t.toNat, by omega, by rw [Int.toNat_of_nonneg t0], rfl, rfl, rfl, Nat.le_refl _, fun _ _ => rfl⟩
def wordsA : Array Value := #[.string ⟨#[97]⟩, .string ⟨#[98]⟩, .string ⟨#[99]⟩, .string ⟨#[97, 46, 99]⟩, .string ⟨#[98, 46, 99]⟩, .string ⟨#[120, 46, 111]⟩, .string ⟨#[100, 105, 114, 47, 97, 46, 99]⟩, .string ⟨#[46, 46, 47, 117, 112]⟩, .string ⟨#[50]⟩, .string ⟨#[45, 49]⟩, .string ⟨#[102, 111, 111]⟩, .string ⟨#[102, 111, 111, 46, 98, 97, 114, 46, 99]⟩, .string ⟨#[108, 105, 98, 37]⟩, .string ⟨#[97, 37, 98]⟩, .string ⟨#[49, 48]⟩, .string ⟨#[122]⟩]
def patsA : Array Value := #[.string ⟨#[37, 46, 99]⟩, .string ⟨#[97, 37]⟩, .string ⟨#[37]⟩, .string ⟨#[98]⟩, .string ⟨#[37, 97, 37]⟩, .string ⟨#[120, 46, 111]⟩]
theorem word_at : ∀ t : Nat, t < 16 → ∃ s : ByteArray, s.size ≤ 9 ∧ ∀ w, (Instr.index 55 (.agg #[.string ⟨#[97]⟩, .string ⟨#[98]⟩, .string ⟨#[99]⟩, .string ⟨#[97, 46, 99]⟩, .string ⟨#[98, 46, 99]⟩, .string ⟨#[120, 46, 111]⟩, .string ⟨#[100, 105, 114, 47, 97, 46, 99]⟩, .string ⟨#[46, 46, 47, 117, 112]⟩, .string ⟨#[50]⟩, .string ⟨#[45, 49]⟩, .string ⟨#[102, 111, 111]⟩, .string ⟨#[102, 111, 111, 46, 98, 97, 114, 46, 99]⟩, .string ⟨#[108, 105, 98, 37]⟩, .string ⟨#[97, 37, 98]⟩, .string ⟨#[49, 48]⟩, .string ⟨#[122]⟩]) (.int .i64 (t : Int))).run Try.prog w = .ok (.string s) w
  | 0, _ => ⟨⟨#[97]⟩, by decide, fun _ => by kernel_rfl⟩
  | 1, _ => ⟨⟨#[98]⟩, by decide, fun _ => by kernel_rfl⟩
  | 2, _ => ⟨⟨#[99]⟩, by decide, fun _ => by kernel_rfl⟩
  | 3, _ => ⟨⟨#[97, 46, 99]⟩, by decide, fun _ => by kernel_rfl⟩
  | 4, _ => ⟨⟨#[98, 46, 99]⟩, by decide, fun _ => by kernel_rfl⟩
  | 5, _ => ⟨⟨#[120, 46, 111]⟩, by decide, fun _ => by kernel_rfl⟩
  | 6, _ => ⟨⟨#[100, 105, 114, 47, 97, 46, 99]⟩, by decide, fun _ => by kernel_rfl⟩
  | 7, _ => ⟨⟨#[46, 46, 47, 117, 112]⟩, by decide, fun _ => by kernel_rfl⟩
  | 8, _ => ⟨⟨#[50]⟩, by decide, fun _ => by kernel_rfl⟩
  | 9, _ => ⟨⟨#[45, 49]⟩, by decide, fun _ => by kernel_rfl⟩
  | 10, _ => ⟨⟨#[102, 111, 111]⟩, by decide, fun _ => by kernel_rfl⟩
  | 11, _ => ⟨⟨#[102, 111, 111, 46, 98, 97, 114, 46, 99]⟩, by decide, fun _ => by kernel_rfl⟩
  | 12, _ => ⟨⟨#[108, 105, 98, 37]⟩, by decide, fun _ => by kernel_rfl⟩
  | 13, _ => ⟨⟨#[97, 37, 98]⟩, by decide, fun _ => by kernel_rfl⟩
  | 14, _ => ⟨⟨#[49, 48]⟩, by decide, fun _ => by kernel_rfl⟩
  | 15, _ => ⟨⟨#[122]⟩, by decide, fun _ => by kernel_rfl⟩
  | n + 16, h => absurd h (by omega)
theorem pat_at : ∀ t : Nat, t < 6 → ∃ s : ByteArray, s.size ≤ 9 ∧ ∀ w, (Instr.index 34 (.agg #[.string ⟨#[37, 46, 99]⟩, .string ⟨#[97, 37]⟩, .string ⟨#[37]⟩, .string ⟨#[98]⟩, .string ⟨#[37, 97, 37]⟩, .string ⟨#[120, 46, 111]⟩]) (.int .i64 (t : Int))).run Try.prog w = .ok (.string s) w
  | 0, _ => ⟨⟨#[37, 46, 99]⟩, by decide, fun _ => by kernel_rfl⟩
  | 1, _ => ⟨⟨#[97, 37]⟩, by decide, fun _ => by kernel_rfl⟩
  | 2, _ => ⟨⟨#[37]⟩, by decide, fun _ => by kernel_rfl⟩
  | 3, _ => ⟨⟨#[98]⟩, by decide, fun _ => by kernel_rfl⟩
  | 4, _ => ⟨⟨#[37, 97, 37]⟩, by decide, fun _ => by kernel_rfl⟩
  | 5, _ => ⟨⟨#[120, 46, 111]⟩, by decide, fun _ => by kernel_rfl⟩
  | n + 6, h => absurd h (by omega)

set_option maxHeartbeats 1000000 in
theorem word_calls (v : Int) (w : World) : Calls Try.prog 20 #[.int .i64 v] w fun e w' => ∃ s : ByteArray, e = .returned (.string s) ∧ s.size ≤ 9 ∧ Below w.heap.size w w' := by
  go_enter Try.func20, Try.ntmps20
  go_wp2_with (go_at_call 21; refine (place_any v 16 (by decide) (by decide) _).mono ?_; rintro e w1 ⟨t, ht, rfl, hb⟩; obtain ⟨s, hs, hix⟩ := word_at t (by omega); have B1 := Lib.hid hb; clear hb)
  go_ret
  exact ⟨s, rfl, hs, B1.out⟩
/-- append to nil of a whole list: a copy. -/
theorem append_copyH {w : World} {ops : Array Oper} {rest : List Oper} {o : Oper} {ac : Act} {Q : Exit → Act → World → Prop} (hgd : o.guard = none) (s x : Operand) (ho : o.op = .call { callee := .builtin .append, args := #[s, x], argTypes := #[22, 22] })
    (hs : ac.eval s = .slice none 0 0) (A : Option Addr) (c : Nat) (l : List ByteArray) (hx : ac.eval x = .slice A l.length c) (hS : Strs w A l) (hl : l.length ≤ 1000000)
    (h : ∀ v' w', Row w' w.heap.size v' l → Below w.heap.size w w' → wpList Try.prog ops Q rest (ac.put o.dst v') w') : wpList Try.prog ops Q (o :: rest) ac w := by
  obtain ⟨i0, hi, hz0, hz1, hz2⟩ := info_parts info_str
  cases A with
  | none =>
    have h0 : l = [] := by
      cases l with
      | nil => rfl
      | cons y r =>
        obtain ⟨b, off, he, _⟩ := hS.cells (by simp)
        cases he
    subst h0
    have hrun : (Builtin.append_ #[22, 22] o.type #[.slice none 0 0, .slice none 0 c]).run Try.prog w = .ok (.slice none 0 0) w := by
      simp [Builtin.append_, run_underlying Try.underlying22, sizeOf, typeInfo, hi, Builtin.lenOf, Builtin.firstCells]
    refine wpList_plain hgd fun K hK => ?_
    unfold Oper.wp execOp
    simp only [List.length_nil] at hx
    simp only [ho, resolve, invoke, builtin, Sem.run_bind, Sem.run_pure, Result.andThen_ok, List.map_toArray, List.map_cons, List.map_nil, hs, hx, hrun]
    exact hK _ _ (h _ _ (Row.nil _ _) (Below.refl _ _))
  | some ad =>
    refine wpList_append_own_at _ hgd s x 22 ho w.heap.size 9 i0 _ 1 16 Try.underlying22 hi hz0 hz1 hz2 rfl (by decide) (.slice none 0 0) 0 [] hs (World.ownsRow_nil _ _ _ _) ad l.length c (l.map Value.string) hx (by simp) (fun j u hu => ?_) (by intro u hu; obtain ⟨z, _, rfl⟩ := List.mem_map.mp hu; rfl) (by unfold maxLen; omega) (by omega) (Nat.le_refl _) ?_
    · rw [List.getElem?_map] at hu
      obtain ⟨z, hz, rfl⟩ := Option.map_eq_some_iff.mp hu
      have hp : 0 < l.length := by have := (List.getElem?_eq_some_iff.mp hz).1; omega
      obtain ⟨b, off, he, _, hc⟩ := hS.cells hp
      obtain rfl := Option.some.inj he
      rw [add_any]
      exact hc j z hz
    · intro v' w' hown hg _ _
      rw [Nat.zero_add] at hown
      exact h v' w' hown ((Below.refl _ w).grown hg (Nat.le_refl _) (fun k hk => by simp [Value.ownBlock] at hk))

/-- append to a row of one's own. -/
theorem append_onto {w : World} {ops : Array Oper} {rest : List Oper} {o : Oper} {ac : Act} {Q : Exit → Act → World → Prop} (hgd : o.guard = none) (s x : Operand) (ho : o.op = .call { callee := .builtin .append, args := #[s, x], argTypes := #[22, 22] })
    (base : Nat) (v : Value) (l1 : List ByteArray) (hs : ac.eval s = v) (hR : Row w base v l1) (A : Option Addr) (c : Nat) (l : List ByteArray) (hx : ac.eval x = .slice A l.length c) (hS : Strs w A l) (hl : l1.length + l.length ≤ 1000000) (hb : base ≤ w.heap.size)
    (h : ∀ v' w', Row w' base v' (l1 ++ l) → Below base w w' → wpList Try.prog ops Q rest (ac.put o.dst v') w') : wpList Try.prog ops Q (o :: rest) ac w := by
  obtain ⟨i0, hi, hz0, hz1, hz2⟩ := info_parts info_str
  cases A with
  | none =>
    have h0 : l = [] := by
      cases l with
      | nil => rfl
      | cons y r =>
        obtain ⟨b, off, he, _⟩ := hS.cells (by simp)
        cases he
    subst h0
    have hrun : (Builtin.append_ #[22, 22] o.type #[v, .slice none 0 c]).run Try.prog w = .ok v w := by
      rcases hR.2 with ⟨rfl, _⟩ | ⟨g, cap, cur, rfl, _, _, hnc, _⟩
      · simp [Builtin.append_, run_underlying Try.underlying22, sizeOf, typeInfo, hi, Builtin.lenOf, Builtin.firstCells]
      · simp [Builtin.append_, run_underlying Try.underlying22, sizeOf, typeInfo, hi, Builtin.lenOf, Builtin.firstCells, hnc, storeCells]
    refine wpList_plain hgd fun K hK => ?_
    unfold Oper.wp execOp
    simp only [List.length_nil] at hx
    simp only [ho, resolve, invoke, builtin, Sem.run_bind, Sem.run_pure, Result.andThen_ok, List.map_toArray, List.map_cons, List.map_nil, hs, hx, hrun]
    exact hK _ _ (h _ _ (by rw [List.append_nil]; exact hR) (Below.refl _ _))
  | some ad =>
    refine wpList_append_own_at _ hgd s x 22 ho base 9 i0 _ 1 16 Try.underlying22 hi hz0 hz1 hz2 rfl (by decide) v l1.length (l1.map Value.string) hs hR ad l.length c (l.map Value.string) hx (by simp) (fun j u hu => ?_) (by intro u hu; obtain ⟨z, _, rfl⟩ := List.mem_map.mp hu; rfl) (by unfold maxLen; omega) (by omega) hb ?_
    · rw [List.getElem?_map] at hu
      obtain ⟨z, hz, rfl⟩ := Option.map_eq_some_iff.mp hu
      have hp : 0 < l.length := by have := (List.getElem?_eq_some_iff.mp hz).1; omega
      obtain ⟨b, off, he, _, hc⟩ := hS.cells hp
      obtain rfl := Option.some.inj he
      rw [add_any]
      exact hc j z hz
    · intro v' w' hown hg _ _
      exact h v' w' (by unfold Row; rw [List.length_append, List.map_append]; exact hown) ((Below.refl base w).grown hg hb (fun k hk => (hR.lt k hk).1))
theorem halves_cut (ws : List ByteArray) (t : Nat) : cutB 1 (t : Int) 0 ws ++ cutB ((t : Int) + 1) (ws.length : Int) 0 ws = ws := by
  rw [cut_whole, cut_whole]
  have e1 : ((1 : Int) - 1).toNat = 0 := rfl
  have e2 : ((t : Int) + 1 - 1).toNat = t := by omega
  rw [e1, e2, Int.toNat_natCast, Int.toNat_natCast, List.take_length, List.drop_zero, List.take_append_drop]
theorem sort_empty (ws : List ByteArray) : (((sortB ws).length : Int) == 0) = ((ws.length : Int) == 0) := by
  have h := (sortB_sorts ws).2
  cases ws with
  | nil =>
    have : sortB [] = [] := List.eq_nil_iff_forall_not_mem.mpr (fun x hx => absurd ((h x).mp hx) (by simp))
    rw [this]
  | cons y r =>
    have hy := (h y).mpr (by simp)
    have : (sortB (y :: r)).length ≠ 0 := fun h0 => by rw [List.length_eq_zero_iff.mp h0] at hy; simp at hy
    have e1 : (((sortB (y :: r)).length : Int) == 0) = false := by simpa using (show ¬ (((sortB (y :: r)).length : Int) = 0) by omega)
    have e2 : (((y :: r).length : Int) == 0) = false := by simp; omega
    rw [e1, e2]
end Go.Proofs.Ytlmabmpdbcgabaa.G
