/- Rows of plain instructions (a kind, a number) of a walk's own, as the checks read them; codes of one block. -/
import Derived.Test.YtlnjikneepgpaaaPureSound2
import Derived.Lib.Hide
namespace Go.Proofs.Ytlnjikneepgpaaa.Pure
open Go.RowKit Go.Proofs.Ytlnjikneepgpaaa.P Go.Proofs.Ytlnjikneepgpaaa.G Go.Proofs.Ytlnjikneepgpaaa.P0 Go.Proofs.YtlnjikneepgpaaaW.PrintWords Go.Proofs.YtlnjikneepgpaaaW.PrintLast Go.Proofs.YtlnjikneepgpaaaW.PrintMore
set_option linter.unusedVariables false
set_option linter.unusedSimpArgs false

def opV (p : Int × Int) : List Value := [.int .i64 p.1, .int .i64 p.2, .string ⟨#[]⟩, .slice none 0 0]
def rowV (xs : List (Int × Int)) : List Value := xs.flatMap opV
def opOf (p : Int × Int) : S44 := ⟨p.1, p.2, ⟨#[]⟩, []⟩
def opsOf (xs : List (Int × Int)) : List S44 := xs.map opOf
theorem opsOf_len (xs : List (Int × Int)) : (opsOf xs).length = xs.length := List.length_map _
theorem rowV_snoc (xs : List (Int × Int)) (p : Int × Int) : rowV (xs ++ [p]) = rowV xs ++ opV p := by simp [rowV]
theorem rowV_at : ∀ (xs : List (Int × Int)) (j : Nat) (p : Int × Int), xs[j]? = some p → ∀ i, i < 4 → (rowV xs)[j * 4 + i]? = (opV p)[i]?
  | [], j, p, h, _, _ => by simp at h
  | q :: xs, 0, p, h, i, hi => by
    have : q = p := by simpa using h
    subst this
    show (opV q ++ rowV xs)[0 * 4 + i]? = _
    rw [List.getElem?_append_left (by simp [opV]; omega)]
    congr 1
    omega
  | q :: xs, j + 1, p, h, i, hi => by
    have := rowV_at xs j p (by simpa using h) i hi
    show (opV q ++ rowV xs)[(j + 1) * 4 + i]? = _
    rw [List.getElem?_append_right (by simp [opV]; omega), ← this]
    congr 1
    simp [opV]
    omega

theorem row_C {w : World} {base : Nat} {v : Value} {xs : List (Int × Int)} (h : w.ownsRow base 44 4 v xs.length (rowV xs)) :
    ∃ A c, v = .slice A xs.length c ∧ xs.length ≤ c ∧ Kd.C k44 w A xs.length (opsOf xs) := by
  rcases h.2 with ⟨rfl, h0⟩ | ⟨g, cap, cur, rfl, hb, hg, hn, hm, _⟩
  · refine ⟨none, 0, by rw [h0], by omega, opsOf_len xs, by omega, fun hp => absurd hp (by omega)⟩
  · refine ⟨some ⟨g, 0, none⟩, cap, rfl, hn, opsOf_len xs, by unfold maxLen at hm; omega, fun _ => ⟨⟨g, 0, none⟩, rfl, fun j p hj => ?_⟩⟩
    unfold opsOf at hj
    rw [List.getElem?_map] at hj
    obtain ⟨q, hq, rfl⟩ := Option.map_eq_some_iff.mp hj
    refine ⟨opV q, rfl, ?_, fun i u hu => ?_⟩
    · exact k44_mk w (opOf q) (A3 := none) (c3 := 0) (Nat.le_refl _) ⟨rfl, by simp [opOf], fun hp => absurd hp (by simp [opOf])⟩
    · have hi : i < 4 := by
        have := (List.getElem?_eq_some_iff.1 hu).1
        exact this
      exact h.cells (g := g) rfl (j * 4 + i) u ((rowV_at xs j q hq i hi).trans hu)

/-- A code of one block. -/
theorem code_one {w : World} {A : Option Addr} {c : Nat} {l : List S44} (h : Kd.C k44 w A l.length l) (hc : l.length ≤ c) :
    Kd.C (Kd.slice 44 k44) (w.alloc (.cells #[.slice A l.length c] 42)) (some ⟨w.heap.size, 0, none⟩) 1 [l] := by
  refine ⟨rfl, by omega, fun _ => ⟨⟨w.heap.size, 0, none⟩, rfl, fun j p hj => ?_⟩⟩
  obtain ⟨rfl, rfl⟩ : j = 0 ∧ p = l := by
    cases j with
    | zero => exact ⟨rfl, by simpa using hj.symm⟩
    | succ j => simp at hj
  refine ⟨[.slice A p.length c], rfl, ⟨A, c, rfl, hc, Kd.C_below h ((Below.refl _ _).alloc (Nat.le_refl _) _)⟩, fun i u hu => ?_⟩
  cases i with
  | zero =>
    have hu' : u = .slice A p.length c := by simpa using hu.symm
    subst hu'
    show (w.alloc (.cells #[.slice A p.length c] 42)).cell? ⟨w.heap.size, 0, none⟩ = _
    rw [cell_of_block (heap_alloc_new w _)]
    rfl
  | succ i => simp at hu

theorem good_ops (xs : List (Int × Int)) (h : xs.length ≤ 20000) : GoodCode [opsOf xs] := by
  refine ⟨by simp, fun b hb => ?_⟩
  obtain rfl : b = opsOf xs := by simpa using hb
  refine ⟨by rw [opsOf_len]; omega, fun x hx => ?_⟩
  obtain ⟨p, _, rfl⟩ := List.mem_map.mp hx
  exact ⟨Nat.zero_le _, Nat.zero_le _⟩

theorem check_calls (l : List (List S44)) (hG : GoodCode l) (h30 : l.length ≤ 30) (W : World) (A : Option Addr) (c : Nat) (hC : Kd.C (Kd.slice 44 k44) W A l.length l) (hc : l.length ≤ c) :
    Calls Try.prog 30 #[.agg #[.slice A l.length c]] W fun e w' => e = .returned (.bool (checkS l).2) ∧ Below W.heap.size W w' := by
  obtain ⟨k, hk⟩ := Ev.rounds (show Ev (fun k => sound_Check.f k l) (checkS l).2 from Ev.bind (check_is l hG h30) (Ev.now _))
  exact sound_Check.calls k A c l _ W hC hc hk
theorem depth_calls (l : List (List S44)) (hG : GoodCode l) (h30 : l.length ≤ 30) (W : World) (A : Option Addr) (c : Nat) (hC : Kd.C (Kd.slice 44 k44) W A l.length l) (hc : l.length ≤ c) :
    Calls Try.prog 32 #[.agg #[.slice A l.length c]] W fun e w' => e = .returned (.int .i64 (checkS l).1) ∧ Below W.heap.size W w' := by
  obtain ⟨k, hk⟩ := Ev.rounds (show Ev (fun k => sound_Depth.f k l) (checkS l).1 from Ev.bind (check_is l hG h30) (Ev.now _))
  exact sound_Depth.calls k A c l _ W hC hc hk
theorem awake13 (w : World) : Calls Try.prog 29 #[] w fun e w' => e = .returned (.bool true) ∧ Below w.heap.size w w' := by
  obtain ⟨k, hk⟩ := Ev.rounds sound_awake
  refine (wainwrightlaw13_awake.calls k true w hk).mono ?_
  rintro e w' ⟨rfl, hb⟩
  exact ⟨rfl, hb⟩

/-- A block of its own: its pile. -/
theorem one_block (l : List S44) (h : opsS [l] ≤ 16384) : checkS [l] = (match runS 0 1 l 0 0 with | some m => (m, true) | none => (0, false)) := by
  unfold checkS
  rw [if_neg (by simp), if_neg (by omega)]
  simp only [depthS, List.length_cons, List.length_nil]
  show (match (runS 0 1 l 0 0).bind fun m => some (mx 0 m) with | some m => (m, true) | none => (0, false)) = _
  cases hr : runS 0 1 l 0 0 with
  | none => rfl
  | some m =>
    have := run_pos 0 1 l 0 0 m (Int.le_refl _) hr
    have e : mx 0 m = m := by unfold mx; rw [if_pos (by omega)]
    simp only [Option.bind_some, e]
theorem op_push (a1 a2 : Int) : opS (opOf (1, 0)) a1 a2 = (0, true) := by
  simp [opS, opOf, opBad, opTakes]
theorem op_join (a1 a2 j : Int) (h : 0 ≤ j) : opS (opOf (4, j)) a1 a2 = (j, true) := by
  have : ¬ j < 0 := by omega
  simp [opS, opOf, opBad, this]
theorem run_push (a1 a2 : Int) (R : List S44) : ∀ (d : Nat) (i : Int), 0 ≤ i → runS a1 a2 (opsOf (List.replicate d (1, 0)) ++ R) i i = runS a1 a2 R (i + d) (i + d) := by
  intro d
  induction d with
  | zero => intro i _; simp [opsOf]
  | succ d ih =>
    intro i h0
    show runS a1 a2 (opOf (1, 0) :: (opsOf (List.replicate d (1, 0)) ++ R)) i i = _
    simp only [runS, op_push]
    rw [if_pos ⟨trivial, h0⟩]
    have e1 : i + (1 - 0) = i + 1 := by omega
    have e2 : mx i (i + 1) = i + 1 := by unfold mx; rw [if_pos (by omega)]
    rw [e1, e2, ih (i + 1) (by omega), show i + 1 + (d : Int) = i + ((d + 1 : Nat) : Int) by omega]

theorem place (a n : Int) (h0 : 0 < n) (h1 : n ≤ 4611686018427387904) : ∃ t, wainwrightlaw00_Place.f a n = some t ∧ 0 ≤ t ∧ t < n := by
  unfold wainwrightlaw00_Place.f
  rw [if_neg (by omega)]
  have hl := Int.tmod_lt_of_pos a h0
  have hg := Int.lt_tmod_of_pos a h0
  generalize Int.tmod a n = m at hl hg
  by_cases h : m < 0
  · rw [if_pos h]
    exact ⟨_, rfl, by unfold wrap64; omega, by unfold wrap64; omega⟩
  · rw [if_neg h]
    exact ⟨_, rfl, by omega, hl⟩
theorem place_any (a m : Int) (h0 : 0 < m) (h1 : m ≤ 4611686018427387904) (w : World) :
    Calls Try.prog 27 #[.int .i64 a, .int .i64 m] w fun e w' => ∃ t : Nat, wainwrightlaw00_Place.f a m = some (t : Int) ∧ (t : Int) < m ∧ e = .returned (.int .i64 t) ∧ Below w.heap.size w w' := by
  obtain ⟨t, ht, t0, t1⟩ := place a m h0 h1
  refine (wainwrightlaw00_Place.calls a m t w ht).mono ?_
  rintro e w' ⟨rfl, nd, rfl⟩
  refine ⟨t.toNat, by rw [ht]; congr 1; omega, by omega, by rw [Int.toNat_of_nonneg t0], rfl, rfl, rfl, Nat.le_refl _, fun _ _ => rfl⟩
theorem cells_new (w : World) (C : List Value) (t : TypeId) : ∀ (j : Nat) (u : Value), C[j]? = some u → (w.alloc (.cells C.toArray t)).cell? ((⟨w.heap.size, 0, none⟩ : Addr).add j) = some u := by
  intro j u hu
  have e : (⟨w.heap.size, 0, none⟩ : Addr).add j = ⟨w.heap.size, j, none⟩ := by
    unfold Addr.add
    split
    · rename_i h0; rw [h0]
    · simp
  rw [e, cell_of_block (heap_alloc_new w _)]
  simpa using hu
theorem opV_one (p : Int × Int) : ∀ u ∈ opV p, u.oneCell' = true := by
  intro u hu
  simp only [opV, List.mem_cons, List.not_mem_nil, or_false] at hu
  rcases hu with rfl | rfl | rfl | rfl <;> rfl
theorem row_D {w : World} {base n : Nat} {v : Value} {xs : List (Int × Int)} (hn : n = xs.length) (h : w.ownsRow base 44 4 v n (rowV xs)) :
    ∃ A c, v = .slice A (opsOf xs).length c ∧ (opsOf xs).length ≤ c ∧ Kd.C k44 w A (opsOf xs).length (opsOf xs) := by
  subst hn
  rw [opsOf_len]
  exact row_C h
theorem check_one {l : List S44} {D : Int} {cb : Bool} (hq : checkS [l] = (D, cb)) (hG : GoodCode [l]) (W : World) (A : Option Addr) (c : Nat) (hC : Kd.C k44 W A l.length l) (hc : l.length ≤ c) :
    Calls Try.prog 30 #[.agg #[.slice (some ⟨W.heap.size, 0, none⟩) 1 1]] (W.alloc (.cells #[.slice A l.length c] 42)) fun e w' => e = .returned (.bool cb) ∧ Below W.heap.size W w' := by
  refine (check_calls [l] hG (by simp) _ _ 1 (code_one hC hc) (by simp)).mono ?_
  rintro e w' ⟨rfl, hb⟩
  rw [hq]
  exact ⟨rfl, ((Below.refl _ W).alloc (Nat.le_refl _) _).trans (hb.mono (by simp))⟩
theorem depth_one {l : List S44} {D : Int} {cb : Bool} (hq : checkS [l] = (D, cb)) (hG : GoodCode [l]) (W : World) (A : Option Addr) (c : Nat) (hC : Kd.C k44 W A l.length l) (hc : l.length ≤ c) :
    Calls Try.prog 32 #[.agg #[.slice (some ⟨W.heap.size, 0, none⟩) 1 1]] (W.alloc (.cells #[.slice A l.length c] 42)) fun e w' => e = .returned (.int .i64 D) ∧ Below W.heap.size W w' := by
  refine (depth_calls [l] hG (by simp) _ _ 1 (code_one hC hc) (by simp)).mono ?_
  rintro e w' ⟨rfl, hb⟩
  rw [hq]
  exact ⟨rfl, ((Below.refl _ W).alloc (Nat.le_refl _) _).trans (hb.mono (by simp))⟩
end Go.Proofs.Ytlnjikneepgpaaa.Pure
