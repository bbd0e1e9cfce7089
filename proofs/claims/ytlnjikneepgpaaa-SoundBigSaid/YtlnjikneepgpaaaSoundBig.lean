/- wainwrightlaw13.SoundBig: the walk of the law, for every two numbers: as many instructions as may be, one less, one more; blocks that go round. -/
import Derived.Test.YtlnjikneepgpaaaSoundRow
import Derived.LoopTactic
import Derived.OwnWalk
import Derived.Laws.OwnMore
import Derived.Laws.MakeOwn
namespace Go.Proofs.Ytlnjikneepgpaaa.Pure
open Go.RowKit Go.Proofs.Ytlnjikneepgpaaa.P Go.Proofs.Ytlnjikneepgpaaa.G Go.Proofs.Ytlnjikneepgpaaa.P0 Go.Proofs.YtlnjikneepgpaaaW.PrintWords Go.Proofs.YtlnjikneepgpaaaW.PrintLast Go.Proofs.YtlnjikneepgpaaaW.PrintMore
set_option linter.unusedVariables false
set_option linter.unusedSimpArgs false

theorem rowV_len (xs : List (Int × Int)) : (rowV xs).length = xs.length * 4 := by
  induction xs with
  | nil => rfl
  | cons p xs ih =>
    show (opV p ++ rowV xs).length = _
    rw [List.length_append, ih, List.length_cons]
    simp [opV]
    omega
theorem rowV_set : ∀ (ys : List (Int × Int)) (j : Nat) (p : Int × Int), j < ys.length →
    ((((rowV ys).set (j * 4) (.int .i64 p.1)).set (j * 4 + 1) (.int .i64 p.2)).set (j * 4 + 2) (.string ⟨#[]⟩)).set (j * 4 + 3) (.slice none 0 0) = rowV (ys.set j p)
  | [], j, p, h => absurd h (by simp)
  | q :: ys, 0, p, _ => by
    show ((((opV q ++ rowV ys).set (0 * 4) (.int .i64 p.1)).set (0 * 4 + 1) (.int .i64 p.2)).set (0 * 4 + 2) (.string ⟨#[]⟩)).set (0 * 4 + 3) (.slice none 0 0) = opV p ++ rowV ys
    simp [opV]
  | q :: ys, j + 1, p, h => by
    have ih := rowV_set ys j p (by simpa using h)
    show ((((opV q ++ rowV ys).set ((j + 1) * 4) (.int .i64 p.1)).set ((j + 1) * 4 + 1) (.int .i64 p.2)).set ((j + 1) * 4 + 2) (.string ⟨#[]⟩)).set ((j + 1) * 4 + 3) (.slice none 0 0) = opV q ++ rowV (ys.set j p)
    have hl : (opV q).length = 4 := rfl
    have e0 : ∀ (l : List Value) (i : Nat) (u : Value), (opV q ++ l).set ((j + 1) * 4 + i) u = opV q ++ l.set (j * 4 + i) u := fun l i u => by
      rw [List.set_append_right _ _ (by rw [hl]; omega), hl]
      congr 2
      omega
    have e00 : ∀ (l : List Value) (u : Value), (opV q ++ l).set ((j + 1) * 4) u = opV q ++ l.set (j * 4) u := fun l u => e0 l 0 u
    rw [e00, e0, e0, e0, ih]
def fill (k N : Nat) : List (Int × Int) := List.replicate k (1, 0) ++ List.replicate (N - k) (0, 0)
theorem fill_len {k N : Nat} (h : k ≤ N) : (fill k N).length = N := by simp [fill]; omega
theorem fill_step {k N : Nat} (h : k < N) : (fill k N).set k (1, 0) = fill (k + 1) N := by
  unfold fill
  rw [show N - k = (N - (k + 1)) + 1 by omega, List.replicate_succ, List.replicate_succ', List.set_append_right _ _ (by simp)]
  simp
theorem fill_at {k N : Nat} (h : k < N) : (fill k N)[k]? = some (0, 0) := by
  unfold fill
  rw [List.getElem?_append_right (by simp), show N - k = (N - (k + 1)) + 1 by omega]
  simp [List.replicate_succ]
theorem made_is (N : Nat) : (madeCells (Value.agg #[.int .i64 0, .int .i64 0, .string ⟨#[]⟩, .slice none 0 0]).cells (N * 4)).toList = rowV (fill 0 N) := by
  apply List.ext_getElem?
  intro m
  have hf : fill 0 N = List.replicate N (0, 0) := by simp [fill]
  by_cases hm : m < N * 4
  · have h1 : m = (m / 4) * 4 + m % 4 := by omega
    have h2 : (List.replicate N ((0 : Int), (0 : Int)))[m / 4]? = some (0, 0) := by
      rw [List.getElem?_replicate, if_pos (by omega)]
    have h3 := rowV_at (List.replicate N (0, 0)) (m / 4) (0, 0) h2 (m % 4) (by omega)
    rw [← h1] at h3
    rw [hf, h3]
    have h4 : m % 4 = 0 ∨ m % 4 = 1 ∨ m % 4 = 2 ∨ m % 4 = 3 := by omega
    have h5 : (madeCells (Value.agg #[.int .i64 0, .int .i64 0, .string ⟨#[]⟩, .slice none 0 0]).cells (N * 4)).toList[m]? = some ((#[Value.int .i64 0, .int .i64 0, .string ⟨#[]⟩, .slice none 0 0] : Array Value)[m % 4]!) := by
      simp [madeCells, Value.cells, hm]
    rw [h5]
    rcases h4 with h4 | h4 | h4 | h4 <;> rw [h4] <;> rfl
  · rw [List.getElem?_eq_none (by simp [size_madeCells]; omega), List.getElem?_eq_none (by rw [rowV_len, fill_len (Nat.zero_le _)]; omega)]

/-- A store of a whole instruction into a row. -/
theorem row_put {w : World} {base g n cap : Nat} {ys : List (Int × Int)} (h : w.ownsRow base 44 4 (.slice (some ⟨g, 0, none⟩) n cap) n (rowV ys)) (j : Nat) (p : Int × Int) (hj : j < ys.length) :
    ((((w.setCell ⟨g, j * 4, none⟩ (.int .i64 p.1)).setCell ⟨g, j * 4 + 1, none⟩ (.int .i64 p.2)).setCell ⟨g, j * 4 + 2, none⟩ (.string ⟨#[]⟩)).setCell ⟨g, j * 4 + 3, none⟩ (.slice none 0 0)).ownsRow base 44 4 (.slice (some ⟨g, 0, none⟩) n cap) n (rowV (ys.set j p)) := by
  rw [← rowV_set ys j p hj]
  exact ((((h.stored _ _).1.stored _ _).1.stored _ _).1.stored _ _).1
theorem row_facts {w : World} {base g n cap : Nat} {ys : List (Int × Int)} (h : w.ownsRow base 44 4 (.slice (some ⟨g, 0, none⟩) n cap) n (rowV ys)) (j : Nat) (q : Int × Int) (hj : ys[j]? = some q) :
    w.cell? ⟨g, j * 4, none⟩ = some (.int .i64 q.1) ∧ w.cell? ⟨g, j * 4 + 1, none⟩ = some (.int .i64 q.2) ∧ w.cell? ⟨g, j * 4 + 2, none⟩ = some (.string ⟨#[]⟩) ∧ w.cell? ⟨g, j * 4 + 3, none⟩ = some (.slice none 0 0) ∧
    w.frozen? ⟨g, j * 4, none⟩ = false ∧ w.frozen? ⟨g, j * 4 + 1, none⟩ = false ∧ w.frozen? ⟨g, j * 4 + 2, none⟩ = false ∧ w.frozen? ⟨g, j * 4 + 3, none⟩ = false := by
  obtain ⟨_, ⟨h1, _⟩ | ⟨g', cap', cur, h1, hb, hg, hn, hm, hs, ht⟩⟩ := h
  · cases h1
  · simp only [Value.slice.injEq, Option.some.injEq, Addr.mk.injEq, and_true, true_and] at h1
    obtain ⟨rfl, rfl⟩ := h1
    have hl : j < ys.length := (List.getElem?_eq_some_iff.1 hj).1
    have hc : ∀ i u, i < 4 → (opV q)[i]? = some u → w.cell? ⟨g, j * 4 + i, none⟩ = some u := fun i u hi hu => by
      rw [cell_of_block hg]
      have h2 := rowV_at ys j q hj i hi
      rw [hu, ← ht, List.getElem?_take] at h2
      split at h2
      · simpa using h2
      · cases h2
    exact ⟨hc 0 _ (by omega) rfl, hc 1 _ (by omega) rfl, hc 2 _ (by omega) rfl, hc 3 _ (by omega) rfl, frozen_of_block hg, frozen_of_block hg, frozen_of_block hg, frozen_of_block hg⟩

def bigOf (N : Nat) : List (Int × Int) := List.replicate (N - 1) (1, 0) ++ [(4, ((N - 1 : Nat) : Int))]
theorem big_last {N : Nat} (h : 0 < N) : (fill N N).set (N - 1) (4, ((N - 1 : Nat) : Int)) = bigOf N := by
  unfold fill bigOf
  rw [Nat.sub_self, List.replicate_zero, List.append_nil, show List.replicate N ((1 : Int), (0 : Int)) = List.replicate (N - 1) (1, 0) ++ [(1, 0)] by rw [← List.replicate_succ', show N - 1 + 1 = N by omega], List.set_append_right _ _ (by simp)]
  simp
theorem big_len {N : Nat} (h : 0 < N) : (bigOf N).length = N := by simp [bigOf]; omega
theorem big_check {N : Nat} (h : 0 < N) (h2 : N ≤ 20000) : (checkS [opsOf (bigOf N)]).2 = decide (N ≤ 16384) := by
  by_cases hN : N ≤ 16384
  · rw [one_block _ (by simp [opsS, opsOf_len, big_len h]; omega), decide_eq_true hN]
    have e : opsOf (bigOf N) = opsOf (List.replicate (N - 1) (1, 0)) ++ [opOf (4, ((N - 1 : Nat) : Int))] := by simp [opsOf, bigOf]
    rw [e, run_push 0 1 _ (N - 1) 0 (Int.le_refl _), Int.zero_add]
    simp only [runS, op_join 0 1 _ (Int.natCast_nonneg (N - 1))]
    rw [if_pos ⟨trivial, Int.le_refl _⟩, if_pos (by omega)]
  · unfold checkS
    rw [if_neg (by simp), if_pos (by simp [opsS, opsOf_len, big_len h]; omega), decide_eq_false hN]
theorem fill_end {n j : Nat} (hj : j < n) : (fill n n)[j]? = some (1, 0) := by simp [fill, hj]
theorem big_put {w : World} {base g n cap : Nat} (h : w.ownsRow base 44 4 (.slice (some ⟨g, 0, none⟩) n cap) n (rowV (fill n n))) (hn : 0 < n) :
    ((((w.setCell ⟨g, (n - 1) * 4, none⟩ (.int .i64 4)).setCell ⟨g, (n - 1) * 4 + 1, none⟩ (.int .i64 (n - 1 : Nat))).setCell ⟨g, (n - 1) * 4 + 2, none⟩ (.string ⟨#[]⟩)).setCell ⟨g, (n - 1) * 4 + 3, none⟩ (.slice none 0 0)).ownsRow base 44 4 (.slice (some ⟨g, 0, none⟩) n cap) n (rowV (bigOf n)) := by
  rw [← big_last hn]
  exact row_put h (n - 1) (4, ((n - 1 : Nat) : Int)) (by rw [fill_len (Nat.le_refl _)]; omega)
def lazyOp (q : Int) : S44 := ⟨6, 0, ⟨#[111, 114]⟩, [q]⟩
theorem lazy_no : ∀ q : Fin 2, checkS [[opOf (1, 0)], [lazyOp (q.val : Int)]] = (0, false) := by decide +kernel
theorem lazy_self : checkS [[lazyOp 0]] = (0, false) := by decide +kernel
theorem row_lit {w : World} {base g n cap : Nat} {xs : List (Int × Int)} (h : w.ownsRow base 44 4 (.slice (some ⟨g, 0, none⟩) n cap) n (rowV xs)) (hn : xs.length = n) :
    Kd.C k44 w (some ⟨g, 0, none⟩) n (opsOf xs) := by
  subst hn
  obtain ⟨A, c, he, _, hC⟩ := row_C h
  injection he with h1 _ _
  subst h1
  exact hC
theorem check_row {l : List S44} {cb : Bool} (hq : (checkS [l]).2 = cb) (hG : GoodCode [l]) {W W0 : World} {n : Nat} (hn : l.length = n) {A : Option Addr} (hC : Kd.C k44 W0 A n l) (hb0 : Below W0.heap.size W0 W) {b : Nat} (hb : b = W.heap.size) {c : Nat} (hc : n ≤ c) :
    Calls Try.prog 30 #[.agg #[.slice (some ⟨b, 0, none⟩) 1 1]] (W.alloc (.cells #[.slice A n c] 42)) fun e w' => e = .returned (.bool cb) ∧ Below W.heap.size W w' := by
  subst hn hb
  exact check_one (D := (checkS [l]).1) (by rw [← hq]) hG W A c (Kd.C_below hC hb0) hc
/-- An instruction in a row of its own. -/
theorem op_lit {w : World} {g : Nat} (x : S44) {A3 : Option Addr} {c3 : Nat} (h0 : w.cell? ⟨g, 0, none⟩ = some (.int .i64 x.f0)) (h1 : w.cell? ⟨g, 1, none⟩ = some (.int .i64 x.f1)) (h2 : w.cell? ⟨g, 2, none⟩ = some (.string x.f2)) (h3 : w.cell? ⟨g, 3, none⟩ = some (.slice A3 x.f3.length c3))
    (l3 : x.f3.length ≤ c3) (hC : (Kd.int .i64).C w A3 x.f3.length x.f3) : Kd.C k44 w (some ⟨g, 0, none⟩) 1 [x] := by
  refine ⟨rfl, by omega, fun _ => ⟨⟨g, 0, none⟩, rfl, fun j p hj => ?_⟩⟩
  obtain ⟨rfl, rfl⟩ : j = 0 ∧ p = x := by
    cases j with
    | zero => exact ⟨rfl, by simpa using hj.symm⟩
    | succ j => simp at hj
  refine ⟨_, rfl, k44_mk w p l3 hC, fun i u hu => ?_⟩
  match i, hu with
  | 0, hu => obtain rfl := Option.some.inj hu; exact h0
  | 1, hu => obtain rfl := Option.some.inj hu; exact h1
  | 2, hu => obtain rfl := Option.some.inj hu; exact h2
  | 3, hu => obtain rfl := Option.some.inj hu; exact h3
  | i + 4, hu => cases hu
theorem int_lit {w : World} {g : Nat} (q : Int) (h0 : w.cell? ⟨g, 0, none⟩ = some (.int .i64 q)) : (Kd.int .i64).C w (some ⟨g, 0, none⟩) 1 [q] := by
  refine ⟨rfl, by omega, fun _ => ⟨⟨g, 0, none⟩, rfl, fun j p hj => ?_⟩⟩
  obtain ⟨rfl, rfl⟩ : j = 0 ∧ p = q := by
    cases j with
    | zero => exact ⟨rfl, by simpa using hj.symm⟩
    | succ j => simp at hj
  refine ⟨[.int .i64 p], rfl, rfl, fun i u hu => ?_⟩
  match i, hu with
  | 0, hu => obtain rfl := Option.some.inj hu; exact h0
  | i + 1, hu => cases hu
theorem good_lit (l : List (List S44)) (h : decide (l.length ≤ 100 ∧ ∀ b ∈ l, b.length ≤ 100 ∧ ∀ x ∈ b, x.f2.size ≤ 100 ∧ x.f3.length ≤ 100) = true) : GoodCode l := by
  obtain ⟨h1, h2⟩ := of_decide_eq_true h
  exact ⟨by omega, fun b hb => ⟨by have := (h2 b hb).1; omega, fun x hx => by have := (h2 b hb).2 x hx; exact ⟨by omega, by omega⟩⟩⟩
theorem code_two {w : World} {A1 A2 : Option Addr} {o1 o2 : S44} (h1 : Kd.C k44 w A1 1 [o1]) (h2 : Kd.C k44 w A2 1 [o2]) :
    Kd.C (Kd.slice 44 k44) (w.alloc (.cells #[.slice A1 1 1, .slice A2 1 1] 42)) (some ⟨w.heap.size, 0, none⟩) 2 [[o1], [o2]] := by
  have hc := cells_new w [.slice A1 1 1, .slice A2 1 1] 42
  refine ⟨rfl, by omega, fun _ => ⟨⟨w.heap.size, 0, none⟩, rfl, fun j p hj => ?_⟩⟩
  match j, hj with
  | 0, hj =>
    obtain rfl := Option.some.inj hj
    refine ⟨[.slice A1 1 1], rfl, ⟨A1, 1, rfl, Nat.le_refl _, Kd.C_below h1 ((Below.refl _ _).alloc (Nat.le_refl _) _)⟩, fun i u hu => ?_⟩
    match i, hu with
    | 0, hu => obtain rfl := Option.some.inj hu; exact hc 0 _ rfl
    | i + 1, hu => cases hu
  | 1, hj =>
    obtain rfl := Option.some.inj hj
    refine ⟨[.slice A2 1 1], rfl, ⟨A2, 1, rfl, Nat.le_refl _, Kd.C_below h2 ((Below.refl _ _).alloc (Nat.le_refl _) _)⟩, fun i u hu => ?_⟩
    match i, hu with
    | 0, hu => obtain rfl := Option.some.inj hu; exact hc 1 _ rfl
    | i + 1, hu => cases hu
  | j + 2, hj => cases hj
/-- A value's cell in a world that other allocations hide. -/
theorem below_of {b : Nat} {w w' : World} (h : Below w.heap.size w w') (hb : b ≤ w.heap.size) : Below b w w' := h.mono hb
/-- The worlds of the three calls. -/
def lazyV (g : Nat) : Array Value := #[.int .i64 6, .int .i64 0, .string ⟨#[111, 114]⟩, .slice (some ⟨g, 0, none⟩) 1 1]
theorem lazy_cells {w w' : World} {q : Int} {b : Nat} (hb : Below (w.heap.size + 2) ((w.alloc (.cells #[.int .i64 q] 3)).alloc (.cells (lazyV b) 44)) w') :
    (∀ i v, (lazyV b)[i]? = some v → w'.cell? ⟨w.heap.size + 1, i, none⟩ = some v) ∧ w'.cell? ⟨w.heap.size, 0, none⟩ = some (.int .i64 q) := by
  refine ⟨fun i v hi => ?_, ?_⟩
  · rw [hb.cell (by simp)]
    have e : w.heap.size + 1 = (w.alloc (.cells #[.int .i64 q] 3)).heap.size := by simp
    rw [e, cell_of_block (heap_alloc_new _ _)]
    exact hi
  · rw [hb.cell (by simp)]
    have e : ((w.alloc (.cells #[.int .i64 q] 3)).alloc (.cells (lazyV b) 44)).heap[w.heap.size]? = some (.cells #[.int .i64 q] 3) := by
      rw [Below.heap_alloc _ _ _ (by simp)]
      exact heap_alloc_new _ _
    rw [cell_of_block e]
    rfl
theorem good_two : ∀ q : Fin 2, decide ([[opOf (1, 0)], [lazyOp (q.val : Int)]].length ≤ 100 ∧ ∀ b ∈ [[opOf (1, 0)], [lazyOp (q.val : Int)]], b.length ≤ 100 ∧ ∀ x ∈ b, x.f2.size ≤ 100 ∧ x.f3.length ≤ 100) = true := by decide
theorem behind {w : World} {p : Addr} {v : Value} (h : w.cell? p = some v) (hp : p.block < w.heap.size) (o : Obj) : (w.alloc o).cell? p = some v := by
  rw [World.cell?_of_block (w := w) (Below.heap_alloc w o p.block hp)]
  exact h
theorem push_lazy {w : World} {q : Int} {h : Nat} (hq : w.cell? ⟨h, 0, none⟩ = some (.int .i64 q)) {b1 b2 b3 : Nat} (e1 : b1 = w.heap.size) (e2 : b2 = w.heap.size + 1) (e3 : b3 = w.heap.size + 2) (q2 : Fin 2) (hq2 : q = (q2.val : Int)) (hh : h < w.heap.size) :
    Calls Try.prog 30 #[.agg #[.slice (some ⟨b3, 0, none⟩) 2 2]] (((w.alloc (.cells #[.int .i64 1, .int .i64 0, .string ⟨#[]⟩, .slice none 0 0] 44)).alloc (.cells (lazyV h) 44)).alloc (.cells #[.slice (some ⟨b1, 0, none⟩) 1 1, .slice (some ⟨b2, 0, none⟩) 1 1] 42))
      fun e w' => e = .returned (.bool false) ∧ Below w.heap.size w w' := by
  subst e1 e2 e3 hq2
  have hc1 := cells_new w [.int .i64 1, .int .i64 0, .string ⟨#[]⟩, .slice none 0 0] 44
  obtain ⟨w1, hw1⟩ : ∃ w1, w1 = w.alloc (.cells #[.int .i64 1, .int .i64 0, .string ⟨#[]⟩, .slice none 0 0] 44) := ⟨_, rfl⟩
  have hs1 : w1.heap.size = w.heap.size + 1 := by rw [hw1]; simp
  have hb1 : Below w.heap.size w w1 := by rw [hw1]; exact (Below.refl _ _).alloc (Nat.le_refl _) _
  have hC1 : Kd.C k44 w1 (some ⟨w.heap.size, 0, none⟩) 1 [opOf (1, 0)] := by
    rw [hw1]
    exact op_lit (opOf (1, 0)) (A3 := none) (c3 := 0) (hc1 0 _ rfl) (hc1 1 _ rfl) (hc1 2 _ rfl) (hc1 3 _ rfl) (Nat.le_refl _) ⟨rfl, by simp [opOf], fun hp => absurd hp (by simp [opOf])⟩
  rw [← hw1]
  have hc2 := cells_new w1 (lazyV h).toList 44
  obtain ⟨w2, hw2⟩ : ∃ w2, w2 = w1.alloc (.cells (lazyV h) 44) := ⟨_, rfl⟩
  have hb2 : Below w1.heap.size w1 w2 := by rw [hw2]; exact (Below.refl _ _).alloc (Nat.le_refl _) _
  have hs2 : w2.heap.size = w.heap.size + 2 := by rw [hw2]; simp [hs1]
  have hC2 : Kd.C k44 w2 (some ⟨w.heap.size + 1, 0, none⟩) 1 [lazyOp (q2.val : Int)] := by
    rw [← hs1]
    refine op_lit (lazyOp (q2.val : Int)) (A3 := some ⟨h, 0, none⟩) (c3 := 1) ?_ ?_ ?_ ?_ (Nat.le_refl _) (int_lit _ ?_)
    · rw [hw2]; exact hc2 0 _ rfl
    · rw [hw2]; exact hc2 1 _ rfl
    · rw [hw2]; exact hc2 2 _ rfl
    · rw [hw2]; exact hc2 3 _ rfl
    · rw [hb2.cell (by rw [hs1]; simp; omega), hb1.cell hh]
      exact hq
  rw [← hw2, ← hs2]
  refine (check_calls [[opOf (1, 0)], [lazyOp (q2.val : Int)]] (good_lit _ (good_two q2)) (by simp) _ _ 2 (code_two (Kd.C_below hC1 hb2) hC2) (by simp)).mono ?_
  rintro e w' ⟨rfl, hb⟩
  rw [lazy_no]
  exact ⟨rfl, ((hb1.trans (hb2.mono (by omega))).alloc (by omega) _).trans (hb.mono (by simp; omega))⟩
theorem push_here {w3 w4 : World} {q : Nat} (hq1 : (q : Int) < 2) (HQ : Hid (w4.cell? ⟨w3.heap.size, 0, none⟩ = some (.int .i64 q))) (HSZ : Hid (w3.heap.size + 1 < w4.heap.size)) :
    Calls Try.prog 30 #[.agg #[.slice (some ⟨w4.heap.size + 1 + 1, 0, none⟩) 2 2]] (((w4.alloc (.cells #[.int .i64 1, .int .i64 0, .string ⟨#[]⟩, .slice none 0 0] 44)).alloc (.cells #[.int .i64 6, .int .i64 0, .string ⟨#[111, 114]⟩, .slice (some ⟨w3.heap.size, 0, none⟩) 1 1] 44)).alloc (.cells #[.slice (some ⟨w4.heap.size, 0, none⟩) 1 1, .slice (some ⟨w4.heap.size + 1, 0, none⟩) 1 1] 42))
      fun e w' => e = .returned (.bool false) ∧ Below w4.heap.size w4 w' :=
  push_lazy (h := w3.heap.size) HQ.out rfl rfl rfl ⟨q, by omega⟩ rfl (by have := HSZ.out; omega)
theorem self_lazy {w : World} {b0 b1 b2 : Nat} (e0 : b0 = w.heap.size) (e1 : b1 = w.heap.size + 1) (e2 : b2 = w.heap.size + 2) :
    Calls Try.prog 30 #[.agg #[.slice (some ⟨b2, 0, none⟩) 1 1]] (((w.alloc (.cells #[.int .i64 0] 3)).alloc (.cells (lazyV b0) 44)).alloc (.cells #[.slice (some ⟨b1, 0, none⟩) 1 1] 42))
      fun e w' => e = .returned (.bool false) ∧ Below w.heap.size w w' := by
  subst e0 e1 e2
  obtain ⟨hl, hq⟩ := lazy_cells (w := w) (q := 0) (b := w.heap.size) (Below.refl _ _)
  obtain ⟨w2, hw2⟩ : ∃ w2, w2 = (w.alloc (.cells #[.int .i64 0] 3)).alloc (.cells (lazyV w.heap.size) 44) := ⟨_, rfl⟩
  have hs2 : w2.heap.size = w.heap.size + 2 := by rw [hw2]; simp
  have hb2 : Below w.heap.size w w2 := by rw [hw2]; exact ((Below.refl _ _).alloc (Nat.le_refl _) _).alloc (by simp) _
  rw [← hw2] at hl hq ⊢
  have hC2 : Kd.C k44 w2 (some ⟨w.heap.size + 1, 0, none⟩) 1 [lazyOp 0] :=
    op_lit (lazyOp 0) (A3 := some ⟨w.heap.size, 0, none⟩) (c3 := 1) (hl 0 _ rfl) (hl 1 _ rfl) (hl 2 _ rfl) (hl 3 _ rfl) (Nat.le_refl _) (int_lit _ hq)
  rw [← hs2]
  refine (check_calls [[lazyOp 0]] (good_lit _ (by decide)) (by simp) _ _ 1 (code_one (l := [lazyOp 0]) (c := 1) hC2 (Nat.le_refl _)) (by simp)).mono ?_
  rintro e w' ⟨rfl, hb⟩
  rw [lazy_self]
  exact ⟨rfl, (hb2.alloc (by omega) _).trans (hb.mono (by simp; omega))⟩



set_option maxHeartbeats 8000000 in
set_option maxRecDepth 100000 in
theorem soundBig_0 (a0 a1 : Int) (hp : wainwrightlaw00_Place.f a0 3 = some 0) (w : World) :
    Calls Try.prog 10 #[.int .i64 a0, .int .i64 a1] w fun e w' => e = .returned (.bool true) ∧ Below w.heap.size w w' := by
  obtain ⟨i0, hi, hz0, hz1, hz2⟩ := info_parts info44
  have HP := Lib.hid hp
  clear hp
  go_enter Try.func10, Try.ntmps10
  go_wp2_with (first
    | (go_at_call 27; refine (wainwrightlaw00_Place.calls a0 3 0 _ HP.out).mono ?_; rintro e w1 ⟨rfl, nd, rfl⟩)
    | (at_make; refine wpList_make_full _ rfl _ _ 42 rfl w.heap.size 44 i0 _ 4 Try.underlying42 hi hz0 hz1 .i64 .i64 _ _ 16383 rfl rfl rfl rfl (by rw [hz2]; omega) (by unfold maxLen; omega) (Nat.le_refl _) ?_; intro w2 hown hgr; rw [made_is] at hown; have HO := Lib.hid hown; have HB := Lib.hid ((show Below w.heap.size w (w.drewN nd) from ⟨rfl, rfl, rfl, Nat.le_refl _, fun _ _ => rfl⟩).trans (show Below w.heap.size (w.drewN nd) w2 from ⟨hgr.os, hgr.tape, hgr.output, hgr.size, fun b hb => hgr.block b hb (by simp)⟩)); clear hown hgr))
  have HO' : Hid (w2.ownsRow w.heap.size 44 4 (.slice (some ⟨w.heap.size, 0, none⟩) 16383 16383) 16383 (rowV (fill 0 16383))) := HO
  clear HO
  obtain ⟨wo, rfl⟩ : ∃ wo : World, wo = w2 := ⟨_, rfl⟩
  go_loopw [8] (fun v8 wr => ∃ k : Nat, k ≤ 16383 ∧ v8 = .int .i64 k ∧ Hid (wr.ownsRow w.heap.size 44 4 (.slice (some ⟨w.heap.size, 0, none⟩) 16383 16383) 16383 (rowV (fill k 16383))) ∧ Hid (Below w.heap.size w wr)) (fun i _ => 16383 - (intOf i).toNat)
  case atStart => exact ⟨0, Nat.zero_le _, rfl, HO', HB⟩
  case round =>
    obtain ⟨k, hk, rfl, HO2, HB2⟩ := hrel
    clear HO' HB
    by_cases hin : k < 16383
    · obtain ⟨hc0, hc1, hc2, hc3, hf0, hf1, hf2, hf3⟩ := row_facts HO2.out k (0, 0) (fill_at hin)
      go_wp2
      refine ⟨⟨k + 1, by omega, by simp, Lib.hid (by rw [← fill_step hin]; exact row_put HO2.out k (1, 0) (by rw [fill_len hk]; exact hin)), Lib.hid ((((HB2.out.setCell (Nat.le_refl _) _).setCell (Nat.le_refl _) _).setCell (Nat.le_refl _) _).setCell (Nat.le_refl _) _)⟩, by simp [intOf]; omega⟩
    · obtain rfl : k = 16383 := by omega
      clear hin hk
      obtain ⟨hc0, hc1, hc2, hc3, hf0, hf1, hf2, hf3⟩ := row_facts HO2.out 16382 (1, 0) (fill_end (by decide))
      have HO3 := Lib.hid (big_put HO2.out (by decide))
      have HB3 := Lib.hid ((((HB2.out.setCell (p := ⟨w.heap.size, 16382 * 4, none⟩) (Nat.le_refl _) (.int .i64 4)).setCell (p := ⟨w.heap.size, 16382 * 4 + 1, none⟩) (Nat.le_refl _) (.int .i64 (16382 : Nat))).setCell (p := ⟨w.heap.size, 16382 * 4 + 2, none⟩) (Nat.le_refl _) (.string ⟨#[]⟩)).setCell (p := ⟨w.heap.size, 16382 * 4 + 3, none⟩) (Nat.le_refl _) (.slice none 0 0))
      clear HO2 HB2
      have T1 : Hid True := trivial
      go_wp2_with (first
        | (go_at_call 27; refine (place_any _ 2 (by decide) (by decide) _).mono ?_; rintro e w3 ⟨q, _, hq1, rfl, hbq⟩; have HB4 := Lib.hid (HB3.out.trans (hbq.mono HB3.out.size)); have HO4 := Lib.hid (HO3.out.kept (row := none) ⟨hbq.os, hbq.tape, hbq.output, hbq.size, fun m hm _ => hbq.block m hm⟩ (Classical.em _)); clear hbq HB3 HO3)
        | (clear T1; go_at_call 30; refine (check_row (l := opsOf (bigOf 16383)) (cb := true) (by rw [big_check (by decide) (by decide)]; decide) (good_ops _ (by rw [big_len (by decide)]; decide)) (by rw [opsOf_len, big_len (by decide)]) (row_lit HO4.out (big_len (by decide))) (((Below.refl _ _).alloc (Nat.le_refl _) _).alloc (by simp) _) (by simp) (Nat.le_refl _)).mono ?_; rintro e w4 ⟨rfl, hb4⟩; have HB5 := Lib.hid ((HB4.out.alloc HB4.out.size _).alloc (by have := HB4.out.size; simp; omega) _ |>.trans (hb4.mono (by have := HB4.out.size; simp; omega))); have hlz := lazy_cells (q := q) (b := w3.heap.size) (hb4.mono (by simp)); have HS5 := Lib.hid hb4.size; clear hb4; obtain ⟨hlz1, hlz2⟩ := hlz; have hsz : w3.heap.size + 1 < w4.heap.size := (by have := HS5.out; simp at this; omega); have hv0 := behind (hlz1 0 (.int .i64 6) rfl) hsz (.cells #[.int .i64 1, .int .i64 0, .string ⟨#[]⟩, .slice none 0 0] 44); have hv1 := behind (hlz1 1 (.int .i64 0) rfl) hsz (.cells #[.int .i64 1, .int .i64 0, .string ⟨#[]⟩, .slice none 0 0] 44); have hv2 := behind (hlz1 2 (.string ⟨#[111, 114]⟩) rfl) hsz (.cells #[.int .i64 1, .int .i64 0, .string ⟨#[]⟩, .slice none 0 0] 44); have hv3 := behind (hlz1 3 (.slice (some ⟨w3.heap.size, 0, none⟩) 1 1) rfl) hsz (.cells #[.int .i64 1, .int .i64 0, .string ⟨#[]⟩, .slice none 0 0] 44); have HQ := Lib.hid hlz2; clear hlz1 hlz2; have HSZ := Lib.hid hsz; clear hsz; have T2 : Hid True := trivial)
        | (clear T2; go_at_call 30; refine (push_here hq1 HQ HSZ).mono ?_; rintro e w5 ⟨rfl, hb5⟩; have HB6 := Lib.hid (HB5.out.trans (hb5.mono HB5.out.size)); clear hb5; have T3 : Hid True := trivial)
        | (clear T3; go_at_call 30; refine (self_lazy rfl rfl rfl).mono ?_; rintro e w6 ⟨rfl, hb6⟩; have HB7 := Lib.hid (HB6.out.trans (hb6.mono HB6.out.size)); clear hb6)
        | (go_at_call 29; refine (awake13 _).mono ?_; rintro e w7 ⟨rfl, hb7⟩; have HB8 := Lib.hid (HB7.out.trans (hb7.mono HB7.out.size)); clear hb7))
      go_ret
      exact ⟨rfl, HB8.out⟩


set_option maxHeartbeats 8000000 in
set_option maxRecDepth 100000 in
theorem soundBig_1 (a0 a1 : Int) (hp : wainwrightlaw00_Place.f a0 3 = some 1) (w : World) :
    Calls Try.prog 10 #[.int .i64 a0, .int .i64 a1] w fun e w' => e = .returned (.bool true) ∧ Below w.heap.size w w' := by
  obtain ⟨i0, hi, hz0, hz1, hz2⟩ := info_parts info44
  have HP := Lib.hid hp
  clear hp
  go_enter Try.func10, Try.ntmps10
  go_wp2_with (first
    | (go_at_call 27; refine (wainwrightlaw00_Place.calls a0 3 1 _ HP.out).mono ?_; rintro e w1 ⟨rfl, nd, rfl⟩)
    | (at_make; refine wpList_make_full _ rfl _ _ 42 rfl w.heap.size 44 i0 _ 4 Try.underlying42 hi hz0 hz1 .i64 .i64 _ _ 16384 rfl rfl rfl rfl (by rw [hz2]; omega) (by unfold maxLen; omega) (Nat.le_refl _) ?_; intro w2 hown hgr; rw [made_is] at hown; have HO := Lib.hid hown; have HB := Lib.hid ((show Below w.heap.size w (w.drewN nd) from ⟨rfl, rfl, rfl, Nat.le_refl _, fun _ _ => rfl⟩).trans (show Below w.heap.size (w.drewN nd) w2 from ⟨hgr.os, hgr.tape, hgr.output, hgr.size, fun b hb => hgr.block b hb (by simp)⟩)); clear hown hgr))
  have HO' : Hid (w2.ownsRow w.heap.size 44 4 (.slice (some ⟨w.heap.size, 0, none⟩) 16384 16384) 16384 (rowV (fill 0 16384))) := HO
  clear HO
  obtain ⟨wo, rfl⟩ : ∃ wo : World, wo = w2 := ⟨_, rfl⟩
  go_loopw [8] (fun v8 wr => ∃ k : Nat, k ≤ 16384 ∧ v8 = .int .i64 k ∧ Hid (wr.ownsRow w.heap.size 44 4 (.slice (some ⟨w.heap.size, 0, none⟩) 16384 16384) 16384 (rowV (fill k 16384))) ∧ Hid (Below w.heap.size w wr)) (fun i _ => 16384 - (intOf i).toNat)
  case atStart => exact ⟨0, Nat.zero_le _, rfl, HO', HB⟩
  case round =>
    obtain ⟨k, hk, rfl, HO2, HB2⟩ := hrel
    clear HO' HB
    by_cases hin : k < 16384
    · obtain ⟨hc0, hc1, hc2, hc3, hf0, hf1, hf2, hf3⟩ := row_facts HO2.out k (0, 0) (fill_at hin)
      go_wp2
      refine ⟨⟨k + 1, by omega, by simp, Lib.hid (by rw [← fill_step hin]; exact row_put HO2.out k (1, 0) (by rw [fill_len hk]; exact hin)), Lib.hid ((((HB2.out.setCell (Nat.le_refl _) _).setCell (Nat.le_refl _) _).setCell (Nat.le_refl _) _).setCell (Nat.le_refl _) _)⟩, by simp [intOf]; omega⟩
    · obtain rfl : k = 16384 := by omega
      clear hin hk
      obtain ⟨hc0, hc1, hc2, hc3, hf0, hf1, hf2, hf3⟩ := row_facts HO2.out 16383 (1, 0) (fill_end (by decide))
      have HO3 := Lib.hid (big_put HO2.out (by decide))
      have HB3 := Lib.hid ((((HB2.out.setCell (p := ⟨w.heap.size, 16383 * 4, none⟩) (Nat.le_refl _) (.int .i64 4)).setCell (p := ⟨w.heap.size, 16383 * 4 + 1, none⟩) (Nat.le_refl _) (.int .i64 (16383 : Nat))).setCell (p := ⟨w.heap.size, 16383 * 4 + 2, none⟩) (Nat.le_refl _) (.string ⟨#[]⟩)).setCell (p := ⟨w.heap.size, 16383 * 4 + 3, none⟩) (Nat.le_refl _) (.slice none 0 0))
      clear HO2 HB2
      have T1 : Hid True := trivial
      go_wp2_with (first
        | (go_at_call 27; refine (place_any _ 2 (by decide) (by decide) _).mono ?_; rintro e w3 ⟨q, _, hq1, rfl, hbq⟩; have HB4 := Lib.hid (HB3.out.trans (hbq.mono HB3.out.size)); have HO4 := Lib.hid (HO3.out.kept (row := none) ⟨hbq.os, hbq.tape, hbq.output, hbq.size, fun m hm _ => hbq.block m hm⟩ (Classical.em _)); clear hbq HB3 HO3)
        | (clear T1; go_at_call 30; refine (check_row (l := opsOf (bigOf 16384)) (cb := true) (by rw [big_check (by decide) (by decide)]; decide) (good_ops _ (by rw [big_len (by decide)]; decide)) (by rw [opsOf_len, big_len (by decide)]) (row_lit HO4.out (big_len (by decide))) (((Below.refl _ _).alloc (Nat.le_refl _) _).alloc (by simp) _) (by simp) (Nat.le_refl _)).mono ?_; rintro e w4 ⟨rfl, hb4⟩; have HB5 := Lib.hid ((HB4.out.alloc HB4.out.size _).alloc (by have := HB4.out.size; simp; omega) _ |>.trans (hb4.mono (by have := HB4.out.size; simp; omega))); have hlz := lazy_cells (q := q) (b := w3.heap.size) (hb4.mono (by simp)); have HS5 := Lib.hid hb4.size; clear hb4; obtain ⟨hlz1, hlz2⟩ := hlz; have hsz : w3.heap.size + 1 < w4.heap.size := (by have := HS5.out; simp at this; omega); have hv0 := behind (hlz1 0 (.int .i64 6) rfl) hsz (.cells #[.int .i64 1, .int .i64 0, .string ⟨#[]⟩, .slice none 0 0] 44); have hv1 := behind (hlz1 1 (.int .i64 0) rfl) hsz (.cells #[.int .i64 1, .int .i64 0, .string ⟨#[]⟩, .slice none 0 0] 44); have hv2 := behind (hlz1 2 (.string ⟨#[111, 114]⟩) rfl) hsz (.cells #[.int .i64 1, .int .i64 0, .string ⟨#[]⟩, .slice none 0 0] 44); have hv3 := behind (hlz1 3 (.slice (some ⟨w3.heap.size, 0, none⟩) 1 1) rfl) hsz (.cells #[.int .i64 1, .int .i64 0, .string ⟨#[]⟩, .slice none 0 0] 44); have HQ := Lib.hid hlz2; clear hlz1 hlz2; have HSZ := Lib.hid hsz; clear hsz; have T2 : Hid True := trivial)
        | (clear T2; go_at_call 30; refine (push_here hq1 HQ HSZ).mono ?_; rintro e w5 ⟨rfl, hb5⟩; have HB6 := Lib.hid (HB5.out.trans (hb5.mono HB5.out.size)); clear hb5; have T3 : Hid True := trivial)
        | (clear T3; go_at_call 30; refine (self_lazy rfl rfl rfl).mono ?_; rintro e w6 ⟨rfl, hb6⟩; have HB7 := Lib.hid (HB6.out.trans (hb6.mono HB6.out.size)); clear hb6)
        | (go_at_call 29; refine (awake13 _).mono ?_; rintro e w7 ⟨rfl, hb7⟩; have HB8 := Lib.hid (HB7.out.trans (hb7.mono HB7.out.size)); clear hb7))
      go_ret
      exact ⟨rfl, HB8.out⟩


set_option maxHeartbeats 8000000 in
set_option maxRecDepth 100000 in
theorem soundBig_2 (a0 a1 : Int) (hp : wainwrightlaw00_Place.f a0 3 = some 2) (w : World) :
    Calls Try.prog 10 #[.int .i64 a0, .int .i64 a1] w fun e w' => e = .returned (.bool true) ∧ Below w.heap.size w w' := by
  obtain ⟨i0, hi, hz0, hz1, hz2⟩ := info_parts info44
  have HP := Lib.hid hp
  clear hp
  go_enter Try.func10, Try.ntmps10
  go_wp2_with (first
    | (go_at_call 27; refine (wainwrightlaw00_Place.calls a0 3 2 _ HP.out).mono ?_; rintro e w1 ⟨rfl, nd, rfl⟩)
    | (at_make; refine wpList_make_full _ rfl _ _ 42 rfl w.heap.size 44 i0 _ 4 Try.underlying42 hi hz0 hz1 .i64 .i64 _ _ 16385 rfl rfl rfl rfl (by rw [hz2]; omega) (by unfold maxLen; omega) (Nat.le_refl _) ?_; intro w2 hown hgr; rw [made_is] at hown; have HO := Lib.hid hown; have HB := Lib.hid ((show Below w.heap.size w (w.drewN nd) from ⟨rfl, rfl, rfl, Nat.le_refl _, fun _ _ => rfl⟩).trans (show Below w.heap.size (w.drewN nd) w2 from ⟨hgr.os, hgr.tape, hgr.output, hgr.size, fun b hb => hgr.block b hb (by simp)⟩)); clear hown hgr))
  have HO' : Hid (w2.ownsRow w.heap.size 44 4 (.slice (some ⟨w.heap.size, 0, none⟩) 16385 16385) 16385 (rowV (fill 0 16385))) := HO
  clear HO
  obtain ⟨wo, rfl⟩ : ∃ wo : World, wo = w2 := ⟨_, rfl⟩
  go_loopw [8] (fun v8 wr => ∃ k : Nat, k ≤ 16385 ∧ v8 = .int .i64 k ∧ Hid (wr.ownsRow w.heap.size 44 4 (.slice (some ⟨w.heap.size, 0, none⟩) 16385 16385) 16385 (rowV (fill k 16385))) ∧ Hid (Below w.heap.size w wr)) (fun i _ => 16385 - (intOf i).toNat)
  case atStart => exact ⟨0, Nat.zero_le _, rfl, HO', HB⟩
  case round =>
    obtain ⟨k, hk, rfl, HO2, HB2⟩ := hrel
    clear HO' HB
    by_cases hin : k < 16385
    · obtain ⟨hc0, hc1, hc2, hc3, hf0, hf1, hf2, hf3⟩ := row_facts HO2.out k (0, 0) (fill_at hin)
      go_wp2
      refine ⟨⟨k + 1, by omega, by simp, Lib.hid (by rw [← fill_step hin]; exact row_put HO2.out k (1, 0) (by rw [fill_len hk]; exact hin)), Lib.hid ((((HB2.out.setCell (Nat.le_refl _) _).setCell (Nat.le_refl _) _).setCell (Nat.le_refl _) _).setCell (Nat.le_refl _) _)⟩, by simp [intOf]; omega⟩
    · obtain rfl : k = 16385 := by omega
      clear hin hk
      obtain ⟨hc0, hc1, hc2, hc3, hf0, hf1, hf2, hf3⟩ := row_facts HO2.out 16384 (1, 0) (fill_end (by decide))
      have HO3 := Lib.hid (big_put HO2.out (by decide))
      have HB3 := Lib.hid ((((HB2.out.setCell (p := ⟨w.heap.size, 16384 * 4, none⟩) (Nat.le_refl _) (.int .i64 4)).setCell (p := ⟨w.heap.size, 16384 * 4 + 1, none⟩) (Nat.le_refl _) (.int .i64 (16384 : Nat))).setCell (p := ⟨w.heap.size, 16384 * 4 + 2, none⟩) (Nat.le_refl _) (.string ⟨#[]⟩)).setCell (p := ⟨w.heap.size, 16384 * 4 + 3, none⟩) (Nat.le_refl _) (.slice none 0 0))
      clear HO2 HB2
      have T1 : Hid True := trivial
      go_wp2_with (first
        | (go_at_call 27; refine (place_any _ 2 (by decide) (by decide) _).mono ?_; rintro e w3 ⟨q, _, hq1, rfl, hbq⟩; have HB4 := Lib.hid (HB3.out.trans (hbq.mono HB3.out.size)); have HO4 := Lib.hid (HO3.out.kept (row := none) ⟨hbq.os, hbq.tape, hbq.output, hbq.size, fun m hm _ => hbq.block m hm⟩ (Classical.em _)); clear hbq HB3 HO3)
        | (clear T1; go_at_call 30; refine (check_row (l := opsOf (bigOf 16385)) (cb := false) (by rw [big_check (by decide) (by decide)]; decide) (good_ops _ (by rw [big_len (by decide)]; decide)) (by rw [opsOf_len, big_len (by decide)]) (row_lit HO4.out (big_len (by decide))) (((Below.refl _ _).alloc (Nat.le_refl _) _).alloc (by simp) _) (by simp) (Nat.le_refl _)).mono ?_; rintro e w4 ⟨rfl, hb4⟩; have HB5 := Lib.hid ((HB4.out.alloc HB4.out.size _).alloc (by have := HB4.out.size; simp; omega) _ |>.trans (hb4.mono (by have := HB4.out.size; simp; omega))); have hlz := lazy_cells (q := q) (b := w3.heap.size) (hb4.mono (by simp)); have HS5 := Lib.hid hb4.size; clear hb4; obtain ⟨hlz1, hlz2⟩ := hlz; have hsz : w3.heap.size + 1 < w4.heap.size := (by have := HS5.out; simp at this; omega); have hv0 := behind (hlz1 0 (.int .i64 6) rfl) hsz (.cells #[.int .i64 1, .int .i64 0, .string ⟨#[]⟩, .slice none 0 0] 44); have hv1 := behind (hlz1 1 (.int .i64 0) rfl) hsz (.cells #[.int .i64 1, .int .i64 0, .string ⟨#[]⟩, .slice none 0 0] 44); have hv2 := behind (hlz1 2 (.string ⟨#[111, 114]⟩) rfl) hsz (.cells #[.int .i64 1, .int .i64 0, .string ⟨#[]⟩, .slice none 0 0] 44); have hv3 := behind (hlz1 3 (.slice (some ⟨w3.heap.size, 0, none⟩) 1 1) rfl) hsz (.cells #[.int .i64 1, .int .i64 0, .string ⟨#[]⟩, .slice none 0 0] 44); have HQ := Lib.hid hlz2; clear hlz1 hlz2; have HSZ := Lib.hid hsz; clear hsz; have T2 : Hid True := trivial)
        | (clear T2; go_at_call 30; refine (push_here hq1 HQ HSZ).mono ?_; rintro e w5 ⟨rfl, hb5⟩; have HB6 := Lib.hid (HB5.out.trans (hb5.mono HB5.out.size)); clear hb5; have T3 : Hid True := trivial)
        | (clear T3; go_at_call 30; refine (self_lazy rfl rfl rfl).mono ?_; rintro e w6 ⟨rfl, hb6⟩; have HB7 := Lib.hid (HB6.out.trans (hb6.mono HB6.out.size)); clear hb6)
        | (go_at_call 29; refine (awake13 _).mono ?_; rintro e w7 ⟨rfl, hb7⟩; have HB8 := Lib.hid (HB7.out.trans (hb7.mono HB7.out.size)); clear hb7))
      go_ret
      exact ⟨rfl, HB8.out⟩


theorem soundBig_walk (a0 a1 : Int) (w : World) (_w0 : (Lit.int .i64 a0).wf = true) (_w1 : (Lit.int .i64 a1).wf = true) :
    Calls Try.prog 10 #[.int .i64 a0, .int .i64 a1] w fun e w' => e = .returned (.bool true) ∧ Below w.heap.size w w' := by
  obtain ⟨t, ht, h0, h1⟩ := place a0 3 (by decide) (by decide)
  have : t = 0 ∨ t = 1 ∨ t = 2 := by omega
  rcases this with rfl | rfl | rfl
  · exact soundBig_0 a0 a1 ht w
  · exact soundBig_1 a0 a1 ht w
  · exact soundBig_2 a0 a1 ht w

end Go.Proofs.Ytlnjikneepgpaaa.Pure
