/- memo: the reference's cache: what memory holds behind it; its Get walked. -/
import Derived.Test.YtabdjijlmiobhaaMemoAt
namespace Go.Proofs.Ytabdjijlmiobhaa.G
open Go.RowKit Go.Maps Go.Sort

def entV (e : Ent) : List Value := [.string e.name, .int .i64 e.turn, .int .i64 e.deep, .string e.val]
def entsV (E : List Ent) : List Value := E.flatMap entV
theorem entsV_snoc (E : List Ent) (e : Ent) : entsV (E ++ [e]) = entsV E ++ entV e := by simp [entsV]
theorem entsV_len (E : List Ent) : (entsV E).length = E.length * 4 := by
  induction E with
  | nil => rfl
  | cons e E ih =>
    show (entV e ++ entsV E).length = _
    rw [List.length_append, ih]; simp [entV]; omega
theorem entsV_at : ∀ (E : List Ent) (j : Nat) (e : Ent), E[j]? = some e → ∀ i, i < 4 → (entsV E)[j * 4 + i]? = (entV e)[i]?
  | [], j, e, h, _, _ => by simp at h
  | q :: E, 0, e, h, i, hi => by
    have : q = e := by simpa using h
    subst this
    show (entV q ++ entsV E)[0 * 4 + i]? = _
    rw [List.getElem?_append_left (by simp [entV]; omega)]
    congr 1
    omega
  | q :: E, j + 1, e, h, i, hi => by
    have := entsV_at E j e (by simpa using h) i hi
    show (entV q ++ entsV E)[(j + 1) * 4 + i]? = _
    rw [List.getElem?_append_right (by simp [entV]; omega), ← this]
    congr 1
    simp [entV]
    omega
theorem entV_one (e : Ent) : ∀ u ∈ entV e, u.oneCell' = true := by
  intro u hu
  simp only [entV, List.mem_cons, List.not_mem_nil, or_false] at hu
  rcases hu with rfl | rfl | rfl | rfl <;> rfl
theorem info_ent : (Try.prog.info? 83).map (fun i => (i.zero, i.size, i.bytes)) = some (some (.agg #[.string ⟨#[]⟩, .int .i64 0, .int .i64 0, .string ⟨#[]⟩]), 4, 48) := by kernel_rfl

/-- A slice that reads as these entries. -/
def Reads (w : World) (rv : Value) (E : List Ent) : Prop :=
  (rv = .slice none 0 0 ∧ E = []) ∨ ∃ g off cap, rv = .slice (some ⟨g, off, none⟩) E.length cap ∧ g < w.heap.size ∧
    ∀ j e, E[j]? = some e → w.cell? ⟨g, off + j * 4, none⟩ = some (.string e.name) ∧ w.cell? ⟨g, off + j * 4 + 1, none⟩ = some (.int .i64 e.turn) ∧ w.cell? ⟨g, off + j * 4 + 2, none⟩ = some (.int .i64 e.deep) ∧ w.cell? ⟨g, off + j * 4 + 3, none⟩ = some (.string e.val)

/-- What memory holds behind the reference's cache. -/
structure RefV (base : Nat) (w : World) (rb : Nat) (M h : Int) (E : List Ent) (rv : Value) : Prop where
  c0 : w.cell? ⟨rb, 0, none⟩ = some (.int .i64 M)
  c1 : w.cell? ⟨rb, 1, none⟩ = some rv
  c2 : w.cell? ⟨rb, 2, none⟩ = some (.int .i64 h)
  f1 : w.frozen? ⟨rb, 1, none⟩ = false
  f2 : w.frozen? ⟨rb, 2, none⟩ = false
  rd : Reads w rv E
  hrb : base ≤ rb
  hrz : rb < w.heap.size
  own : ∀ k, rv.ownBlock = some k → base ≤ k ∧ k ≠ rb
  len : E.length ≤ 1001

theorem Reads.kept {w w' : World} {rv : Value} {E : List Ent} (h : Reads w rv E) (hz : w.heap.size ≤ w'.heap.size) (hk : ∀ k, rv.ownBlock = some k → w'.heap[k]? = w.heap[k]?) : Reads w' rv E := by
  rcases h with h | ⟨g, off, cap, rfl, hg, hc⟩
  · exact Or.inl h
  · have hh := hk g rfl
    refine Or.inr ⟨g, off, cap, rfl, by omega, fun j e he => ?_⟩
    obtain ⟨h0, h1, h2, h3⟩ := hc j e he
    exact ⟨(cells_kept hh).trans h0, (cells_kept hh).trans h1, (cells_kept hh).trans h2, (cells_kept hh).trans h3⟩

def RFoot (rb : Nat) (rv : Value) (k : Nat) : Prop := k = rb ∨ rv.ownBlock = some k
theorem RefV.footz {base : Nat} {w : World} {rb : Nat} {M h : Int} {E : List Ent} {rv : Value} (hC : RefV base w rb M h E rv) (k : Nat) (hk : RFoot rb rv k) : base ≤ k ∧ k < w.heap.size := by
  rcases hk with rfl | hk
  · exact ⟨hC.hrb, hC.hrz⟩
  · refine ⟨(hC.own k hk).1, ?_⟩
    rcases hC.rd with ⟨rfl, _⟩ | ⟨g, off, cap, rfl, hg, _⟩
    · exact absurd hk (by simp [Value.ownBlock])
    · have : g = k := Option.some.inj hk
      omega
theorem RefV.kept {base : Nat} {w w' : World} {rb : Nat} {M h : Int} {E : List Ent} {rv : Value} (hC : RefV base w rb M h E rv) {F : Nat → Prop} (hA : Apart F w w') (hF : ∀ k, F k → ¬ RFoot rb rv k) : RefV base w' rb M h E rv := by
  have hk : ∀ k, RFoot rb rv k → w'.heap[k]? = w.heap[k]? := fun k hk => hA.block k (hC.footz k hk).2 (fun hh => hF k hh hk)
  have hr := hk rb (Or.inl rfl)
  exact ⟨(cells_kept hr).trans hC.c0, (cells_kept hr).trans hC.c1, (cells_kept hr).trans hC.c2, (frozen_kept hr).trans hC.f1, (frozen_kept hr).trans hC.f2,
    hC.rd.kept hA.size (fun k h => hk k (Or.inr h)), hC.hrb, Nat.lt_of_lt_of_le hC.hrz hA.size, hC.own, hC.len⟩
theorem apart_below {w w' : World} (hb : Below w.heap.size w w') : Apart (fun _ => False) w w' := ⟨hb.os, hb.tape, hb.output, hb.size, fun k hk _ => hb.block k hk⟩
theorem RefV.later {base : Nat} {w w' : World} {rb : Nat} {M h : Int} {E : List Ent} {rv : Value} (hC : RefV base w rb M h E rv) (hb : Below w.heap.size w w') : RefV base w' rb M h E rv :=
  hC.kept (apart_below hb) (fun _ h => h.elim)

/-- The reference's answer. -/
def fitR : List Ent → ByteArray → Int → Int → Option ByteArray
  | [], _, _, _ => none
  | e :: E, x, turn, room => if e.name = x ∧ e.turn = turn ∧ e.deep ≤ room then some e.val else fitR E x turn room
theorem fitR_step {E : List Ent} {k : Nat} {e : Ent} (he : E[k]? = some e) (x : ByteArray) (turn room : Int) : fitR (E.drop k) x turn room = if e.name = x ∧ e.turn = turn ∧ e.deep ≤ room then some e.val else fitR (E.drop (k + 1)) x turn room := by
  obtain ⟨hk, h⟩ := List.getElem?_eq_some_iff.mp he
  rw [List.drop_eq_getElem_cons hk, h]; rfl

/-- Behind the reference's Get. -/
def RGot (w w' : World) (rb : Nat) (h : Int) (R : Option ByteArray) (y : Ending) : Prop :=
  y = .returned (.tuple #[.string (R.getD ⟨#[]⟩), .bool R.isSome]) ∧ ∃ w1, Below w.heap.size w w1 ∧ if R.isSome then ∃ o, w' = (w1.setCell ⟨rb, 2, none⟩ (.int .i64 (wrap64 (h + 1)))).alloc o else w' = w1
theorem eq_toList {a b : ByteArray} (h : a.toList = b.toList) : a = b := by
  rw [Lib.toList_data, Lib.toList_data] at h
  exact ByteArray.ext (Array.toList_inj.mp h)

set_option maxHeartbeats 4000000 in
set_option maxRecDepth 100000 in
theorem rget {base : Nat} {w : World} {rb : Nat} {M h : Int} {E : List Ent} {rv : Value} (hC : RefV base w rb M h E rv) (x : ByteArray) (turn room : Int) :
    Calls Try.prog 33 #[.pointer (some ⟨rb, 0, none⟩), .string x, .int .i64 turn, .int .i64 room] w fun y w' => RGot w w' rb h (fitR E x turn room) y := by
  have HC := Lib.hid hC
  have hlen := hC.len
  have hrz := hC.hrz
  rcases hC.rd with ⟨rfl, rfl⟩ | ⟨g, off, cap, rfl, hg, hcell⟩
  · have c1 := hC.c1
    clear hC
    go_enter Try.func33, Try.ntmps33
    go_wp2
    go_loopw [10, 11] (fun i _ wr => i = .int .i64 0 ∧ wr = w) (fun _ _ _ => 0)
    case atStart => exact ⟨rfl, rfl⟩
    case round =>
      obtain ⟨rfl, rfl⟩ := hrel
      go_wp2
      go_ret2
      exact ⟨rfl, _, Below.refl _ _, rfl⟩
  · have HCELL := Lib.hid hcell
    obtain ⟨R, hR⟩ : ∃ R, R = fitR E x turn room := ⟨_, rfl⟩
    have HR := Lib.hid hR
    rw [← hR]
    clear hC hcell hR
    go_enter Try.func33, Try.ntmps33
    go_wp2
    go_loopw [10, 11] (fun i _ wr => ∃ k : Nat, k ≤ E.length ∧ i = .int .i64 k ∧ Hid (R = fitR (E.drop k) x turn room) ∧ Hid (Below w.heap.size w wr)) (fun i _ _ => E.length - (intOf i).toNat)
    case atStart => exact ⟨0, Nat.zero_le _, rfl, HR, Lib.hid (Below.refl _ _)⟩
    case round =>
      obtain ⟨k, hk, rfl, HK, HB⟩ := hrel
      have c1 := (HB.out.cell (p := ⟨rb, 1, none⟩) (by exact hrz)).trans HC.out.c1
      by_cases hlt : k < E.length
      · obtain ⟨e, he⟩ : ∃ e, E[k]? = some e := ⟨_, List.getElem?_eq_getElem hlt⟩
        obtain ⟨e0, e1, e2, e3⟩ := HCELL.out k e he
        have e0 := (HB.out.cell (p := ⟨g, off + k * 4, none⟩) (by exact hg)).trans e0
        have e1 := (HB.out.cell (p := ⟨g, off + k * 4 + 1, none⟩) (by exact hg)).trans e1
        have e2 := (HB.out.cell (p := ⟨g, off + k * 4 + 2, none⟩) (by exact hg)).trans e2
        have e3 := (HB.out.cell (p := ⟨g, off + k * 4 + 3, none⟩) (by exact hg)).trans e3
        have hst := HK.out
        rw [fitR_step he] at hst
        have HST := Lib.hid hst
        have c2 := (HB.out.cell (p := ⟨rb, 2, none⟩) (by exact hrz)).trans HC.out.c2
        have f2 := (HB.out.frozen (p := ⟨rb, 2, none⟩) (by exact hrz)).trans HC.out.f2
        have hsz := HB.out.size
        have hrz2 : rb < wr.heap.size := by omega
        clear he hst
        go_wp2
        · go_ret2
          have hR : R = some e.val := by
            have := HST.out
            rw [if_pos ⟨eq_toList ‹e.name.toList = x.toList›, by assumption, by assumption⟩] at this
            exact this
          subst hR
          exact ⟨rfl, _, HB.out, _, rfl⟩
        all_goals
          go_roundw
          case rel =>
            refine ⟨k + 1, by omega, by go_num, ?_, Lib.hid (HB.out.alloc HB.out.size _)⟩
            have := HST.out
            rw [if_neg (by rintro ⟨h1, h2, h3⟩; first | exact absurd h2 (by assumption) | omega | exact absurd (congrArg ByteArray.toList h1) (by assumption))] at this
            exact this
          case measure => simp [intOf]; omega
      · go_wp2
        go_ret2
        have hn : R = none := by have := HK.out; rw [List.drop_eq_nil_of_le (by omega)] at this; exact this
        subst hn
        exact ⟨rfl, _, HB.out, rfl⟩

theorem RGot.moved {base : Nat} {w w' : World} {rb : Nat} {M h : Int} {E : List Ent} {rv : Value} {R : Option ByteArray} {y : Ending} (hC : RefV base w rb M h E rv) (hG : RGot w w' rb h R y) :
    RefV base w' rb M (if R.isSome then wrap64 (h + 1) else h) E rv ∧ Apart (fun k => k = rb) w w' := by
  obtain ⟨_, w1, hb, hw⟩ := hG
  have h1 := hC.later hb
  have ha := (apart_below hb).mono (F' := fun k => k = rb) (fun _ _ h => h.elim)
  cases R with
  | none =>
    obtain rfl : w' = w1 := hw
    exact ⟨h1, ha⟩
  | some s =>
    obtain ⟨o, rfl⟩ : ∃ o, w' = (w1.setCell ⟨rb, 2, none⟩ (.int .i64 (wrap64 (h + 1)))).alloc o := hw
    have hal := Apart.alloc (fun _ => False) (w1.setCell ⟨rb, 2, none⟩ (.int .i64 (wrap64 (h + 1)))) o
    have hst := Apart.of_grown (grownBy_store (w := w1) (p := ⟨rb, 2, none⟩) (.int .i64 (wrap64 (h + 1))))
    refine ⟨?_, (ha.andThen (hst.mono (F' := fun k => k = rb) (fun k _ e => (Option.some.inj e).symm)) (fun _ _ h => h)).andThen hal (fun _ _ h => h.elim)⟩
    simp only [Option.isSome_some, if_true]
    refine RefV.kept ?_ hal (fun _ h => h.elim)
    refine ⟨?_, ?_, ?_, ?_, ?_, h1.rd.kept hst.size (fun k hk => hst.block k ((h1.footz k (Or.inr hk)).2) (fun e => (hC.own k hk).2 (Option.some.inj e).symm)), h1.hrb, Nat.lt_of_lt_of_le h1.hrz hst.size, h1.own, h1.len⟩
    · rw [World.cell?_setCell_other w1 ⟨rb, 2, none⟩ _ _ (by simp)]; exact h1.c0
    · rw [World.cell?_setCell_other w1 ⟨rb, 2, none⟩ _ _ (by simp)]; exact h1.c1
    · exact World.cell?_setCell_same w1 ⟨rb, 2, none⟩ _ h1.c2
    · rw [World.frozen?_setCell]; exact h1.f1
    · rw [World.frozen?_setCell]; exact h1.f2

/-! ### Put -/
def putR (M : Int) (E : List Ent) (e : Ent) : List Ent := if ((without E e.name ++ [e]).length : Int) > M then (without E e.name ++ [e]).tail else without E e.name ++ [e]
theorem without_step {E : List Ent} {k : Nat} {e : Ent} (he : E[k]? = some e) (x : ByteArray) : without (E.take (k + 1)) x = if e.name = x then without (E.take k) x else without (E.take k) x ++ [e] := by
  obtain ⟨hk, h⟩ := List.getElem?_eq_some_iff.mp he
  rw [List.take_succ_eq_append_getElem hk, h]
  unfold without
  rw [List.filter_append]
  by_cases hx : e.name = x
  · rw [if_pos hx, List.filter_cons_of_neg (by simp [hx])]; simp
  · rw [if_neg hx, List.filter_cons_of_pos (by simp [hx])]; rfl
theorem slice_ent {base : Nat} {w : World} {v : Value} {n : Nat} {xs : List Value} (h : w.ownsRow base 83 4 v n xs) : ∃ a c, v = .slice a n c := by
  rcases h.2 with ⟨rfl, rfl⟩ | ⟨g, cap, cur, rfl, _⟩
  · exact ⟨_, _, rfl⟩
  · exact ⟨_, _, rfl⟩

/-- Behind the reference's Put. -/
def RPut (base : Nat) (w w' : World) (rb : Nat) (M h : Int) (E : List Ent) (y : Ending) : Prop :=
  y = .returned (.tuple #[]) ∧ ∃ rv', RefV base w' rb M h E rv' ∧ (∀ k, rv'.ownBlock = some k → w.heap.size ≤ k) ∧ Apart (fun k => k = rb) w w'

theorem add_plain (g k : Nat) : (⟨g, 0, none⟩ : Addr).add k = ⟨g, k, none⟩ := by
  unfold Addr.add
  split
  · rename_i h0; rw [h0]
  · simp
theorem cells_new (w : World) (C : List Value) (t : TypeId) : ∀ (j : Nat) (u : Value), C[j]? = some u → (w.alloc (.cells C.toArray t)).cell? ((⟨w.heap.size, 0, none⟩ : Addr).add j) = some u := by
  intro j u hu
  have e : (⟨w.heap.size, 0, none⟩ : Addr).add j = ⟨w.heap.size, j, none⟩ := by
    unfold Addr.add
    split
    · rename_i h0; rw [h0]
    · simp
  rw [e, cell_of_block (heap_alloc_new w _)]
  simpa using hu

/-- What an own row says, cut or whole. -/
theorem reads_row {w : World} {B : Nat} {v : Value} {E : List Ent} (h : w.ownsRow B 83 4 v E.length (entsV E)) (hne : E ≠ []) : ∃ g cap, v = .slice (some ⟨g, 0, none⟩) E.length cap ∧ B ≤ g ∧ g < w.heap.size ∧
    ∀ j e, E[j]? = some e → w.cell? ⟨g, 0 + j * 4, none⟩ = some (.string e.name) ∧ w.cell? ⟨g, 0 + j * 4 + 1, none⟩ = some (.int .i64 e.turn) ∧ w.cell? ⟨g, 0 + j * 4 + 2, none⟩ = some (.int .i64 e.deep) ∧ w.cell? ⟨g, 0 + j * 4 + 3, none⟩ = some (.string e.val) := by
  rcases h.2 with ⟨_, h0⟩ | ⟨g, cap, cur, rfl, hb, hg, _⟩
  · exact absurd (List.length_eq_zero_iff.mp h0) hne
  · refine ⟨g, cap, rfl, hb, (h.lt g rfl).2, fun j e he => ?_⟩
    have hc : ∀ i, i < 4 → ∀ u, (entV e)[i]? = some u → w.cell? ⟨g, j * 4 + i, none⟩ = some u := fun i hi u hu => by
      rw [← add_plain]; exact h.cells (g := g) rfl (j * 4 + i) u ((entsV_at E j e he i hi).trans hu)
    simp only [Nat.zero_add]
    exact ⟨hc 0 (by omega) _ rfl, hc 1 (by omega) _ rfl, hc 2 (by omega) _ rfl, hc 3 (by omega) _ rfl⟩

theorem put_apart {w wr w2 : World} {o : Obj} {v : Value} {n : Nat} {xs : List Value} (hb : Below w.heap.size w wr) (ho : wr.ownsRow w.heap.size 83 4 v n xs) (hg : (wr.alloc o).grownBy w2 v.ownBlock) : Apart (fun _ => False) w w2 :=
  apart_below ((hb.alloc hb.size _).grown hg (by have := hb.size; simp; omega) (fun j hj => (ho.lt j hj).1))

/-- A new slice stands in the cache. -/
theorem put_store {base : Nat} {w w2 : World} {rb : Nat} {M h : Int} {E0 E' : List Ent} {rv rv' : Value} (hC : RefV base w2 rb M h E0 rv) (hA : Apart (fun _ => False) w w2) (hrz : rb < w.heap.size) (hbase : base ≤ w.heap.size)
    (hR : Reads w2 rv' E') (hown : ∀ k, rv'.ownBlock = some k → w.heap.size ≤ k) (hl : E'.length ≤ 1001) : RPut base w (w2.setCell ⟨rb, 1, none⟩ rv') rb M h E' (.returned (.tuple #[])) := by
  have hst := Apart.of_grown (grownBy_store (w := w2) (p := ⟨rb, 1, none⟩) rv')
  refine ⟨rfl, rv', ⟨?_, ?_, ?_, ?_, ?_, hR.kept hst.size (fun k hk => hst.block k ?_ (fun e => ?_)), hC.hrb, Nat.lt_of_lt_of_le hC.hrz hst.size, fun k hk => ⟨by have := hown k hk; omega, by have := hown k hk; omega⟩, hl⟩, hown, (hA.mono (F' := fun k => k = rb) (fun _ _ h => h.elim)).andThen (hst.mono (F' := fun k => k = rb) (fun k _ e => (Option.some.inj e).symm)) (fun _ _ h => h)⟩
  · rw [World.cell?_setCell_other w2 ⟨rb, 1, none⟩ _ _ (by simp)]; exact hC.c0
  · exact World.cell?_setCell_same w2 ⟨rb, 1, none⟩ _ hC.c1
  · rw [World.cell?_setCell_other w2 ⟨rb, 1, none⟩ _ _ (by simp)]; exact hC.c2
  · rw [World.frozen?_setCell]; exact hC.f1
  · rw [World.frozen?_setCell]; exact hC.f2
  · rcases hR with ⟨rfl, _⟩ | ⟨g, off, cap, rfl, hg, _⟩
    · exact absurd hk (by simp [Value.ownBlock])
    · have : g = k := Option.some.inj hk
      omega
  · have h1 := hown k hk
    have h2 : rb = k := Option.some.inj e
    omega

theorem put_close {base : Nat} {w w2 : World} {rb : Nat} {M h : Int} {E : List Ent} {rv rv' : Value} {e : Ent} {a1 : Option Addr} {k1 : Nat} (hC : RefV base w2 rb M h E rv) (hA : Apart (fun _ => False) w w2) (hrz : rb < w.heap.size)
    (hO : w2.ownsRow w.heap.size 83 4 (.slice a1 ((without E e.name).length + 1) k1) ((without E e.name).length + 1) (entsV (without E e.name) ++ entV e)) (hl : (without E e.name).length ≤ 1000)
    (hV : (M < ((without E e.name).length : Int) + 1 ∧ k1 - 1 = 0 ∧ rv' = .slice a1 (without E e.name).length 0) ∨ (M < ((without E e.name).length : Int) + 1 ∧ rv' = .slice (Option.map (fun x => { block := x.block, off := x.off + 4 }) a1) (without E e.name).length (k1 - 1)) ∨ (((without E e.name).length : Int) + 1 ≤ M ∧ rv' = .slice a1 ((without E e.name).length + 1) k1)) :
    RPut base w (w2.setCell ⟨rb, 1, none⟩ rv') rb M h (putR M E e) (.returned (.tuple #[])) := by
  have hbase : base ≤ w.heap.size := by have := hC.hrb; omega
  generalize hW : without E e.name = W at hO hl hV
  have hsn : W.length + 1 = (W ++ [e]).length := by simp
  have hp : putR M E e = if ((W.length : Int) + 1) > M then (W ++ [e]).tail else W ++ [e] := by
    unfold putR; rw [hW]; simp
  have hO' : w2.ownsRow w.heap.size 83 4 (.slice a1 (W ++ [e]).length k1) (W ++ [e]).length (entsV (W ++ [e])) := by rw [entsV_snoc, ← hsn]; exact hO
  have hcap : W.length + 1 ≤ k1 := by
    rcases hO.2 with ⟨h1, _⟩ | ⟨g, cap, cur, h1, _, _, h2, _⟩
    · injection h1 with _ h1 _; omega
    · injection h1 with _ _ h1; omega
  obtain ⟨g, cap, hv, hg, hgz, hcells⟩ := reads_row hO' (by simp)
  injection hv with ha hn hk
  subst ha
  rcases hV with ⟨hM, hk0, rfl⟩ | ⟨hM, rfl⟩ | ⟨hM, rfl⟩
  · rw [hp, if_pos (by omega)]
    have hW0 : W = [] := List.length_eq_zero_iff.mp (by omega)
    subst hW0
    refine put_store hC hA hrz hbase (Or.inr ⟨g, 0, 0, rfl, hgz, fun j e he => by simp at he⟩) (fun k hk => ?_) (by simp)
    have : g = k := Option.some.inj hk
    omega
  · rw [hp, if_pos (by omega)]
    have ht : (W ++ [e]).tail.length = W.length := by simp
    refine put_store hC hA hrz hbase (Or.inr ⟨g, 0 + 4, k1 - 1, by rw [ht]; rfl, hgz, fun j e' he => ?_⟩) (fun k hk => ?_) (by omega)
    · have he2 : (W ++ [e])[j + 1]? = some e' := by rw [← he, List.getElem?_tail]
      have := hcells (j + 1) e' he2
      rw [show 0 + (j + 1) * 4 = 0 + 4 + j * 4 by omega] at this
      exact this
    · have : g = k := Option.some.inj hk
      omega
  · rw [hp, if_neg (by omega)]
    refine put_store hC hA hrz hbase (Or.inr ⟨g, 0, k1, by rw [← hsn], hgz, hcells⟩) (fun k hk => ?_) (by omega)
    have : g = k := Option.some.inj hk
    omega

set_option maxHeartbeats 8000000 in
set_option maxRecDepth 100000 in
theorem rput {base : Nat} {w : World} {rb : Nat} {M h : Int} {E : List Ent} {rv : Value} (hC : RefV base w rb M h E rv) (hE : E.length ≤ 1000) (e : Ent) :
    Calls Try.prog 32 #[.pointer (some ⟨rb, 0, none⟩), .string e.name, .int .i64 e.turn, .int .i64 e.deep, .string e.val] w fun y w' => RPut base w w' rb M h (putR M E e) y := by
  have HC := Lib.hid hC
  have hlen := hC.len
  have hrz := hC.hrz
  obtain ⟨i0, hi, hz0, hz1, hz2⟩ := info_parts info_ent
  have hrd : ∃ a cap, rv = .slice a E.length cap := by
    rcases hC.rd with ⟨rfl, rfl⟩ | ⟨g, off, cap, rfl, _⟩
    · exact ⟨_, _, rfl⟩
    · exact ⟨_, _, rfl⟩
  obtain ⟨av, capv, rfl⟩ := hrd
  clear hC
  go_enter Try.func32, Try.ntmps32
  go_wp2
  go_loopw [10, 11] (fun v i wr => ∃ k : Nat, k ≤ E.length ∧ i = .int .i64 k ∧ Hid (wr.ownsRow w.heap.size 83 4 v (without (E.take k) e.name).length (entsV (without (E.take k) e.name))) ∧ Hid (Below w.heap.size w wr)) (fun _ i _ => E.length - (intOf i).toNat)
  case atStart => exact ⟨0, Nat.zero_le _, rfl, World.ownsRow_nil _ _ _ _, Lib.hid (Below.refl _ _)⟩
  case round =>
    obtain ⟨k, hk, rfl, HO, HB⟩ := hrel
    have c1 := (HB.out.cell (p := ⟨rb, 1, none⟩) (by exact hrz)).trans HC.out.c1
    have hwl : (without (E.take k) e.name).length ≤ 1000 := Nat.le_trans (List.length_filter_le _ _) (by simp; omega)
    by_cases hlt : k < E.length
    · obtain ⟨d, hd⟩ : ∃ d, E[k]? = some d := ⟨_, List.getElem?_eq_getElem hlt⟩
      obtain ⟨g, off, rfl, hg, hcell⟩ : ∃ g off, av = some ⟨g, off, none⟩ ∧ g < w.heap.size ∧ w.cell? ⟨g, off + k * 4, none⟩ = some (.string d.name) ∧ w.cell? ⟨g, off + k * 4 + 1, none⟩ = some (.int .i64 d.turn) ∧ w.cell? ⟨g, off + k * 4 + 2, none⟩ = some (.int .i64 d.deep) ∧ w.cell? ⟨g, off + k * 4 + 3, none⟩ = some (.string d.val) := by
        rcases HC.out.rd with ⟨_, h0⟩ | ⟨g, off, cap, he, hg, hc⟩
        · rw [h0] at hlt; exact absurd hlt (by simp)
        · injection he with h1 h2 h3
          exact ⟨g, off, h1, hg, hc k d hd⟩
      obtain ⟨e0, e1, e2, e3⟩ := hcell
      have e0 := (HB.out.cell (p := ⟨g, off + k * 4, none⟩) (by exact hg)).trans e0
      have e1 := (HB.out.cell (p := ⟨g, off + k * 4 + 1, none⟩) (by exact hg)).trans e1
      have e2 := (HB.out.cell (p := ⟨g, off + k * 4 + 2, none⟩) (by exact hg)).trans e2
      have e3 := (HB.out.cell (p := ⟨g, off + k * 4 + 3, none⟩) (by exact hg)).trans e3
      have HST := Lib.hid (without_step hd e.name)
      clear hd
      by_cases hne : d.name = e.name
      · rw [hne] at e0
        go_wp2
        go_roundw
        case rel => exact ⟨k + 1, by omega, by go_num, Lib.hid (by rw [HST.out, if_pos hne]; exact HO.out), HB⟩
        case measure => simp [intOf]; omega
      · have hne2 : ¬ d.name.toList = e.name.toList := fun hh => hne (eq_toList hh)
        have hne3 : (!d.name.toList == e.name.toList) = true := by simpa using hne2
        go_wp2_with (at_builtin; refine wpList_append_own _ rfl _ _ 61 rfl w.heap.size 83 i0 _ 4 48 Try.underlying61 hi hz0 hz1 hz2 rfl (by decide) _ _ _ rfl (HO.out.alloc _) ⟨wr.heap.size, 0, none⟩ 1 1 (entV d) rfl rfl (cells_new _ _ _) (entV_one _) (by unfold maxLen; omega) (by omega) (by have := HB.out.size; simp; omega) ?_; intro v1 w2 hown1 hgr1 _; have HO1 := Lib.hid hown1; have HG1 := Lib.hid hgr1; clear hown1 hgr1)
        go_roundw
        case rel =>
          refine ⟨k + 1, by omega, by go_num, Lib.hid ?_, Lib.hid ?_⟩
          · rw [HST.out, if_neg hne, entsV_snoc, List.length_append]
            exact HO1.out
          · exact (HB.out.alloc HB.out.size _).grown HG1.out (by have := HB.out.size; simp; omega) (fun j hj => (HO.out.lt j hj).1)
        case measure => simp [intOf]; omega
    · obtain rfl : k = E.length := by omega
      have HO2 : Hid (wr.ownsRow w.heap.size 83 4 u10 (without E e.name).length (entsV (without E e.name))) := Lib.hid (by have := HO.out; rwa [List.take_length] at this)
      have hwl2 : (without E e.name).length ≤ 1000 := by rwa [List.take_length] at hwl
      have HC1 := Lib.hid (HC.out.later HB.out)
      have HB1 := HB
      clear hwl hlt HO HB
      go_wp2_with (at_builtin; refine wpList_append_own _ rfl _ _ 61 rfl w.heap.size 83 i0 _ 4 48 Try.underlying61 hi hz0 hz1 hz2 rfl (by decide) _ _ _ rfl (HO2.out.alloc _) ⟨wr.heap.size, 0, none⟩ 1 1 (entV e) rfl rfl (cells_new _ _ _) (entV_one _) (by unfold maxLen; omega) (by omega) (by have := HB1.out.size; simp; omega) ?_; intro v1 w2 hown1 hgr1 _; obtain ⟨a1, k1, rfl⟩ := slice_ent hown1; have HO1 := Lib.hid hown1; have HG1 := Lib.hid hgr1; have HA1 := Lib.hid (put_apart HB1.out HO2.out hgr1); clear hown1 hgr1; have HC2 := Lib.hid (HC.out.kept HA1.out (fun _ h => h.elim)); have d0 := HC2.out.c0; have d1 := HC2.out.c1; have g1 := HC2.out.f1)
      all_goals (go_end0; show RPut _ _ _ _ _ _ _ _)
      · exact put_close HC2.out HA1.out hrz HO1.out hwl2 (Or.inl ⟨by assumption, by omega, rfl⟩)
      · exact put_close HC2.out HA1.out hrz HO1.out hwl2 (Or.inr (Or.inl ⟨by assumption, rfl⟩))
      · exact put_close HC2.out HA1.out hrz HO1.out hwl2 (Or.inr (Or.inr ⟨by assumption, rfl⟩))
end Go.Proofs.Ytabdjijlmiobhaa.G
