/- wainwrightlaw09.TableShapes: the walk of the law for every number: a name taken, found; its letters; names near it are none. -/
import Derived.Test.YtlnjikneepgpaaaTabKinds
import Derived.Laws.RangeAny
import Derived.LoopTactic
namespace Go.Proofs.Ytlnjikneepgpaaa.Pure
open Go.RowKit Go.Proofs.Ytlnjikneepgpaaa.P Go.Proofs.Ytlnjikneepgpaaa.G Go.Proofs.Ytlnjikneepgpaaa.P0 Go.Sort
set_option linter.unusedVariables false
set_option linter.unusedSimpArgs false

theorem shp_all : ∀ i : Fin 35, (1 ≤ (infOf (nm i.val)).mn ∧ ((infOf (nm i.val)).mx = 0 ∨ (infOf (nm i.val)).mn ≤ (infOf (nm i.val)).mx)) ∧ ((infOf (nm i.val)).lz && (infOf (nm i.val)).pu) = false := by decide +kernel
theorem near_all : ∀ i : Fin 35, (lookT tabL (nm i.val ++ ⟨#[120]⟩)).isSome = false ∧ (lookT tabL (⟨#[32]⟩ ++ nm i.val)).isSome = false ∧ (nm i.val ++ ⟨#[120]⟩).size ≤ 100 ∧ (⟨#[32]⟩ ++ nm i.val).size ≤ 100 ∧ (nm i.val).size ≤ 12 := by decide +kernel
theorem chars_all : ∀ i : Fin 35, ∀ pos : Fin 12, pos.val < (nm i.val).size → (97 ≤ (Utf8.decode (nm i.val) pos.val).1 ∧ (Utf8.decode (nm i.val) pos.val).1 ≤ 122) ∨ (Utf8.decode (nm i.val) pos.val).1 = 45 := by decide +kernel
theorem find_none {y : ByteArray} (h : (lookT tabL y).isSome = false) (hz : y.size ≤ 100) : table_Find.f y = some (0, 0, false, false, false) := by
  unfold table_Find.f infOf
  rw [if_pos (by omega), h]
  cases hl : lookT tabL y with
  | none => rfl
  | some q => rw [hl] at h; cases h
theorem width9 (s : ByteArray) (pos : Nat) (h : pos < s.size) : 1 ≤ (Utf8.decode s pos).2 := by
  by_cases ha : (s[pos]'h).toNat < 128
  · rw [decode_ascii s pos h ha]
    exact Nat.le_refl _
  · exact (decode_high s pos h (by omega)).2

set_option maxHeartbeats 8000000 in
set_option maxRecDepth 100000 in
theorem tableShapes_any (a0 : Int) (i : Nat) (hi : i < 35) (hp : wainwrightlaw00_Place.f a0 35 = some (i : Int)) (w : World) :
    Calls Try.prog 13 #[.int .i64 a0] w fun e w' => e = .returned (.bool true) ∧ Below w.heap.size w w' := by
  obtain ⟨⟨hs1, hs2⟩, hs3⟩ := shp_all ⟨i, hi⟩
  obtain ⟨hn1, hn2, hz1, hz2, hz3⟩ := near_all ⟨i, hi⟩
  have hch := chars_all ⟨i, hi⟩
  have hfind := nm_find hi
  obtain ⟨x, hx⟩ : ∃ x, x = nm i := ⟨_, rfl⟩
  obtain ⟨⟨m1, m2, lz, pu⟩, hm⟩ : ∃ f, f = infOf (nm i) := ⟨_, rfl⟩
  simp only at hs1 hs2 hs3 hn1 hn2 hz1 hz2 hz3 hch
  rw [← hm] at hs1 hs2 hs3 hfind
  rw [← hx] at hn1 hn2 hz1 hz2 hz3 hch hfind
  simp only at hs1 hs2 hs3
  have HP := Lib.hid hp
  have HX := Lib.hid hx
  have HF := Lib.hid hfind
  simp only at HF
  have HN1 := Lib.hid (find_none hn1 hz1)
  have HN2 := Lib.hid (find_none hn2 hz2)
  have HCH := Lib.hid hch
  have HZ3 := Lib.hid hz3
  have HSH := Lib.hid (And.intro hs1 (And.intro hs2 hs3))
  clear hp hx hm hfind hn1 hn2 hz1 hz2 hz3 hch hs1 hs2 hs3
  have T1 : Hid True := trivial
  go_enter Try.func13, Try.ntmps13
  go_wp2_with (first
    | (go_at_call 38; refine (table_Names_own _).mono ?_; rintro e w1 ⟨g, cap, rfl, hown, hb⟩; have hci := own_at hown i _ (nm_at hi); rw [← HX.out] at hci; have HB := Lib.hid hb; clear hown hb)
    | (go_at_call 27; refine (wainwrightlaw00_Place.calls a0 35 i _ HP.out).mono ?_; rintro e w2 ⟨rfl, nd, rfl⟩)
    | (clear T1; go_at_call 41; refine (table_Find.calls _ _ _ _ _ _ _ HF.out).mono ?_; rintro e w2 ⟨rfl, hb2⟩; have HB2 := Lib.hid ((HB.out.trans (show Below w.heap.size w1 (w1.drewN nd) from ⟨rfl, rfl, rfl, Nat.le_refl _, fun _ _ => rfl⟩)).trans (hb2.mono HB.out.size)); clear hb2; have T2 : Hid True := trivial))
  clear hci
  go_loopw [8] (fun _ wr => ∃ pos, wr = (w2.alloc (.cells #[.int .i64 m1, .int .i64 m2, .bool lz, .bool pu] 61)).iter x pos) (fun _ wr => x.size - wr.iterPos (w2.alloc (.cells #[.int .i64 m1, .int .i64 m2, .bool lz, .bool pu] 61)).heap.size)
  case atStart => exact ⟨0, rfl⟩
  case round =>
    obtain ⟨pos, rfl⟩ := hrel
    have e1 : (w2.alloc (.cells #[.int .i64 m1, .int .i64 m2, .bool lz, .bool pu] 61)).heap.size = w2.heap.size + 1 := by simp
    by_cases hp : pos < x.size
    · obtain ⟨c, hc⟩ : ∃ c, c = (Utf8.decode x pos).1 := ⟨_, rfl⟩
      have hnx : ∀ ty, (Instr.next (.pointer (some ⟨w2.heap.size + 1, 0, none⟩)) true ty).run Try.prog ((w2.alloc (.cells #[.int .i64 m1, .int .i64 m2, .bool lz, .bool pu] 61)).iter x pos) = .ok (.tuple #[.bool true, .int .i64 pos, .int .i32 c]) ((w2.alloc (.cells #[.int .i64 m1, .int .i64 m2, .bool lz, .bool pu] 61)).iter x (pos + (Utf8.decode x pos).2)) := fun ty => by rw [← e1, hc]; exact run_next_any _ x pos ty hp
      have hw := width9 x pos hp
      have hcs := HCH.out ⟨pos, by have := HZ3.out; omega⟩ hp
      simp only at hcs
      rw [← hc] at hcs
      clear hc e1
      rcases hcs with ⟨h1, h2⟩ | h3
      · have h1' : (97 : Int) ≤ (c : Int) := by omega
        have h2' : (c : Int) ≤ 122 := by omega
        clear h1 h2
        go_wp2
        refine ⟨⟨_, rfl⟩, ?_⟩
        simp only [World.iterPos_iter]
        omega
      · subst h3
        go_wp2
        refine ⟨⟨_, rfl⟩, ?_⟩
        simp only [World.iterPos_iter]
        omega
    · have hnx : ∀ ty, (Instr.next (.pointer (some ⟨w2.heap.size + 1, 0, none⟩)) true ty).run Try.prog ((w2.alloc (.cells #[.int .i64 m1, .int .i64 m2, .bool lz, .bool pu] 61)).iter x pos) = .ok (.tuple #[.bool false]) ((w2.alloc (.cells #[.int .i64 m1, .int .i64 m2, .bool lz, .bool pu] 61)).iter x pos) := fun ty => by rw [← e1]; exact run_next_end _ x pos ty hp
      have HB3 := Lib.hid (show Below w.heap.size w ((w2.alloc (.cells #[.int .i64 m1, .int .i64 m2, .bool lz, .bool pu] 61)).iter x pos) from (HB2.out.alloc HB2.out.size (.cells #[.int .i64 m1, .int .i64 m2, .bool lz, .bool pu] 61)).alloc (by have := HB2.out.size; simp; omega) _)
      have HK := Lib.hid (show ((w2.alloc (.cells #[.int .i64 m1, .int .i64 m2, .bool lz, .bool pu] 61)).iter x pos).heap[w2.heap.size]? = some (.cells #[.int .i64 m1, .int .i64 m2, .bool lz, .bool pu] 61) from (Below.heap_alloc (w2.alloc (.cells #[.int .i64 m1, .int .i64 m2, .bool lz, .bool pu] 61)) (.stringIter x pos) w2.heap.size (by simp)).trans (heap_alloc_new w2 (.cells #[.int .i64 m1, .int .i64 m2, .bool lz, .bool pu] 61)))
      have HZ := Lib.hid (show w2.heap.size < ((w2.alloc (.cells #[.int .i64 m1, .int .i64 m2, .bool lz, .bool pu] 61)).iter x pos).heap.size by simp [World.iter]; omega)
      obtain ⟨hs1, hs2, hs3⟩ := HSH.out
      have hcase : (m2 == 0) = true ∨ ((m2 == 0) = false ∧ m1 ≤ m2) := by
        by_cases h0 : m2 = 0
        · exact Or.inl (beq_iff_eq.mpr h0)
        · exact Or.inr ⟨beq_eq_false_iff_ne.mpr h0, by omega⟩
      have hz9 : x.size + 1 ≤ 9223372036854775807 := by have := HZ3.out; omega
      have hz8 : 1 + x.size ≤ 9223372036854775807 := by have := HZ3.out; omega
      clear hs2 hp e1 HSH
      cases lz <;> cases pu
      all_goals try (exact absurd hs3 (by decide))
      all_goals
        clear hs3
        rcases hcase with hq | ⟨hq, hle⟩
      all_goals
        go_wp2_with (first
          | (clear T2; go_at_call 41; refine (table_Find.calls _ 0 0 false false false _ HN1.out).mono ?_; rintro e w3 ⟨rfl, hb3⟩; have HB4 := Lib.hid (HB3.out.trans (hb3.mono HB3.out.size)); have HK3 := Lib.hid ((hb3.block _ HZ.out).trans HK.out); have HZ3b := Lib.hid (Nat.lt_of_lt_of_le HZ.out hb3.size); clear hb3; have T3 : Hid True := trivial)
          | (clear T3; go_at_call 41; refine (table_Find.calls _ 0 0 false false false _ HN2.out).mono ?_; rintro e w4 ⟨rfl, hb4⟩; have HB5 := Lib.hid ((HB4.out.alloc HB4.out.size (.cells #[.int .i64 0, .int .i64 0, .bool false, .bool false] 61)).trans (hb4.mono (by have := HB4.out.size; simp; omega))); have HK4 := Lib.hid ((hb4.block _ (by have := HZ3b.out; simp; omega)).trans ((Below.heap_alloc w3 (.cells #[.int .i64 0, .int .i64 0, .bool false, .bool false] 61) _ HZ3b.out).trans HK3.out)); have hz4 : w2.heap.size < w4.heap.size := Nat.lt_of_lt_of_le (Nat.lt_of_lt_of_le HZ3b.out (by simp)) hb4.size; have d0 := fun o => behind9 ((cell_of_block (j := 0) HK4.out).trans rfl) hz4 o; have d1 := fun o => behind9 ((cell_of_block (j := 1) HK4.out).trans rfl) hz4 o; have d2 := fun o => behind9 ((cell_of_block (j := 2) HK4.out).trans rfl) hz4 o; have d3 := fun o => behind9 ((cell_of_block (j := 3) HK4.out).trans rfl) hz4 o; clear hb4 hz4)
          | (go_at_call 43; refine (awake09 _).mono ?_; rintro e w5 ⟨rfl, hb5⟩; have HB6 := Lib.hid ((HB5.out.alloc HB5.out.size (.cells #[.int .i64 0, .int .i64 0, .bool false, .bool false] 61)).trans (hb5.mono (by have := HB5.out.size; simp; omega))); clear hb5))
        go_ret
        exact ⟨rfl, HB6.out⟩
theorem tableShapes_walk (a0 : Int) (w : World) (_w0 : (Lit.int .i64 a0).wf = true) :
    Calls Try.prog 13 #[.int .i64 a0] w fun e w' => e = .returned (.bool true) ∧ Below w.heap.size w w' := by
  obtain ⟨t, ht, h0, h1⟩ := place a0 35 (by decide) (by decide)
  exact tableShapes_any a0 t.toNat (by omega) (by rw [ht]; congr 1; omega) w
end Go.Proofs.Ytlnjikneepgpaaa.Pure
