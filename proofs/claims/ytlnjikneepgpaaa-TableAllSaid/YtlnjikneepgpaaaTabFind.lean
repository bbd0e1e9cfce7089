/- table.Find: what it answers for every name, and the walk of its code. -/
import Derived.Test.YtlnjikneepgpaaaTabAll
namespace Go.Proofs.Ytlnjikneepgpaaa.G
open Go.RowKit Go.Maps Go.WideMaps

theorem cell_of_block {w : World} {b j : Nat} {C : Array Value} {t : TypeId} (h : w.heap[b]? = some (.cells C t (0, 0))) : w.cell? ⟨b, j, none⟩ = C[j]? := by
  simp [World.cell?, h]
theorem frozen_of_block {w : World} {b j : Nat} {C : Array Value} {t : TypeId} (h : w.heap[b]? = some (.cells C t (0, 0))) : w.frozen? ⟨b, j, none⟩ = false := by
  simp [World.frozen?, h]

def infOf (x : ByteArray) : Inf := (lookT tabL x).getD noInf
def table_Find.f (a0 : ByteArray) : Option (Int × Int × Bool × Bool × Bool) :=
  if a0.size ≤ 9223372036854775807 then some ((infOf a0).mn, (infOf a0).mx, (infOf a0).lz, (infOf a0).pu, (lookT tabL a0).isSome) else none

set_option maxHeartbeats 4000000 in
set_option maxRecDepth 100000 in
theorem table_Find.calls (a0 : ByteArray) (r1 r2 : Int) (r3 r4 r5 : Bool) (w : World) (h : table_Find.f a0 = some (r1, r2, r3, r4, r5)) :
    Calls Try.prog 41 #[.string a0] w fun e w' => e = .returned (.tuple #[.agg #[.int .i64 r1, .int .i64 r2, .bool r3, .bool r4], .bool r5]) ∧ Below w.heap.size w w' := by
  unfold table_Find.f at h
  by_cases hz : a0.size ≤ 9223372036854775807
  · rw [if_pos hz] at h
    simp only [Option.some.injEq, Prod.mk.injEq] at h
    obtain ⟨rfl, rfl, rfl, rfl, rfl⟩ := h
    have hz' : Hid (a0.size ≤ maxLen) := Lib.hid (by unfold maxLen; omega)
    clear hz
    have hci : (infOf a0).cell = .agg #[.int .i64 (infOf a0).mn, .int .i64 (infOf a0).mx, .bool (infOf a0).lz, .bool (infOf a0).pu] := rfl
    obtain ⟨⟨m1, m2, m3, m4⟩, hm⟩ : ∃ i, i = infOf a0 := ⟨_, rfl⟩
    have HM := Lib.hid hm
    obtain ⟨ok, hok⟩ : ∃ ok, ok = (lookT tabL a0).isSome := ⟨_, rfl⟩
    have HOK := Lib.hid hok
    rw [← hm, ← hok]
    clear hm hok hci
    go_enter Try.func41, Try.ntmps41
    go_wp2_with (first
      | (go_at_call 59; refine (table_all _).mono ?_; rintro e w1 ⟨b, B, w0, rfl, hT, hb, hB⟩; have HT := Lib.hid hT; have hk := (hb.block w.heap.size (by simp)).trans (heap_alloc_new w _); have hlt : w.heap.size < w1.heap.size := Nat.lt_of_lt_of_le (by simp) hb.size; have HB := Lib.hid (((Below.refl _ w).alloc (Nat.le_refl _) _).trans (hb.mono (by simp))); have c0 := cell_of_block (j := 0) hk; have c1 := cell_of_block (j := 1) hk; have c2 := cell_of_block (j := 2) hk; have c3 := cell_of_block (j := 3) hk; simp only [List.getElem?_toArray, List.getElem?_cons_zero, List.getElem?_cons_succ] at c0 c1 c2 c3; have f0 := frozen_of_block (j := 0) hk; have f1 := frozen_of_block (j := 1) hk; have f2 := frozen_of_block (j := 2) hk; have f3 := frozen_of_block (j := 3) hk; clear hT hb hB hk)
      | (at_lookup; refine tab_look HT.out rfl _ _ rfl _ _ rfl rfl _ ?_ ?_ hz'.out ?_; rfl; rfl; rw [show (lookT tabL a0).getD noInf = ⟨m1, m2, m3, m4⟩ from HM.out.symm, ← HOK.out]; simp only [Inf.cell]))
    have hz : (w1.alloc (Obj.cells #[.int .i64 m1, .int .i64 m2, .bool m3, .bool m4] 61)).heap.size = w1.heap.size + 1 := by simp
    refine bodyPost_ret (v := .tuple #[.agg #[.int .i64 m1, .int .i64 m2, .bool m3, .bool m4], .bool ok]) (by simp [results, Try.results41, go_sem, hlt, c0, c1, c2, c3]) rfl ⟨rfl, ?_⟩
    refine Below.alloc (Below.setCell (Below.setCell (Below.setCell (Below.setCell HB.out ?_ _) ?_ _) ?_ _) ?_ _) ?_ _
    all_goals first | exact Nat.le_refl _ | (simp; omega)
  · rw [if_neg hz] at h
    cases h
end Go.Proofs.Ytlnjikneepgpaaa.G
