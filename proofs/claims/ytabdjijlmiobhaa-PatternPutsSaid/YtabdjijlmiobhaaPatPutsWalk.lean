/- wainwrightlaw02.PatternPuts: the walk of the law, for every four texts. -/
import Derived.Test.YtabdjijlmiobhaaPatPuts
import Derived.Test.YtabdjijlmiobhaaPx2
import Derived.LoopTactic
import Derived.Deep.LoopGhost
import Derived.Outline
import Derived.RegionTactic
namespace Go.Proofs.Ytabdjijlmiobhaa.G
open Go.RowKit Go.Proofs.Ytabdjijlmiobhaa.P0

theorem awake02 (w : World) : Calls Try.prog 22 #[] w fun e w' => e = .returned (.bool true) ∧ Below w.heap.size w w' := by
  refine (P.wainwrightlaw02_awake.calls true w Pure.awake_true).mono ?_
  rintro e w' ⟨rfl, hb⟩
  exact ⟨rfl, hb⟩

theorem width_pos (s : ByteArray) (pos : Nat) (h : pos < s.size) : 1 ≤ (Utf8.decode s pos).2 := by
  by_cases ha : (s[pos]'h).toNat < 128
  · rw [decode_ascii s pos h ha]
    exact Nat.le_refl _
  · exact (decode_high s pos h (by omega)).2

set_option maxHeartbeats 4000000 in
set_option maxRecDepth 100000 in
theorem patternPuts_any (a0 a1 a2 a3 : ByteArray) (w : World) (z0 : a0.size ≤ 140737488351232) (z1 : a1.size ≤ 140737488351232) (z2 : a2.size ≤ 140737488351232) (z3 : a3.size ≤ 140737488351232) :
    Calls Try.prog 8 #[.string a0, .string a1, .string a2, .string a3] w fun e w' => e = .returned (.bool true) ∧ Below w.heap.size w w' := by
  by_cases hbig : 500 < a0.size + a2.size + a1.size + a3.size
  · go_enter Try.func8, Try.ntmps8
    go_wp2_with (go_at_call 22; refine (awake02 _).mono ?_; rintro e w1 ⟨rfl, hb⟩; have HB := Lib.hid hb; clear hb)
    go_ret
    exact ⟨rfl, HB.out⟩
  · obtain ⟨tm, tb, hback, htz, hput⟩ := Pure.puts_back a0 a2 a3 (by omega)
    have HBACK := Lib.hid hback
    have HPUT := Lib.hid hput
    clear hback hput
    go_enter Try.func8, Try.ntmps8
    go_wp2
    go_loopw [10] (fun _ wr => ∃ pos, wr = w.iter (a0 ++ a2) pos ∧ Hid (Pure.Clean (a0 ++ a2) pos)) (fun _ wr => (a0 ++ a2).size - wr.iterPos w.heap.size)
    case atStart => exact ⟨0, rfl, Pure.clean_zero _⟩
    case round =>
      obtain ⟨pos, rfl, HC⟩ := hrel
      by_cases hp : pos < (a0 ++ a2).size
      · have hnx : ∀ ty, (Instr.next (.pointer (some ⟨w.heap.size, 0, none⟩)) true ty).run Try.prog (w.iter (a0 ++ a2) pos) = _ := fun ty => run_next_any w (a0 ++ a2) pos ty hp
        go_wp2_with (go_at_call 22; refine (awake02 _).mono ?_; rintro e w1 ⟨rfl, hb⟩; have HB := Lib.hid hb; clear hb)
        · go_ret
          exact ⟨rfl, (show Below _ w (w.iter (a0 ++ a2) _) from (Below.refl _ _).alloc (Nat.le_refl _) _).trans (HB.out.mono (by simp [World.iter]))⟩
        · go_ret
          exact ⟨rfl, (show Below _ w (w.iter (a0 ++ a2) _) from (Below.refl _ _).alloc (Nat.le_refl _) _).trans (HB.out.mono (by simp [World.iter]))⟩
        · have ht : (((Utf8.decode (a0 ++ a2) pos).fst : Int) == 37) = false ∧ (((Utf8.decode (a0 ++ a2) pos).fst : Int) == 92) = false := by assumption
          have h1 := beq_eq_false_iff_ne.mp ht.1
          have h2 := beq_eq_false_iff_ne.mp ht.2
          have hwd := width_pos (a0 ++ a2) pos hp
          refine ⟨⟨_, rfl, Pure.clean_step hp HC.out (by omega) (by omega)⟩, ?_⟩
          simp only [World.iterPos_iter]
          omega
      · have hnx : ∀ ty, (Instr.next (.pointer (some ⟨w.heap.size, 0, none⟩)) true ty).run Try.prog (w.iter (a0 ++ a2) pos) = _ := fun ty => run_next_end w (a0 ++ a2) pos ty hp
        have hcl := Pure.clean_all HC.out (Nat.not_lt.mp hp)
        rw [Pure.cat_list] at hcl
        have hpre : ∀ c ∈ a0.data.toList, c ≠ 37 ∧ c ≠ 92 := fun c hc => hcl c (List.mem_append.mpr (Or.inl hc))
        have HOF := Lib.hid (Pure.puts_of a0 a2 hpre (by omega))
        have HM1 := Lib.hid (Pure.puts_match a0 a1 a2 (by omega))
        have HRP := Lib.hid (Pure.puts_rep a0 a1 a2 hpre (by omega))
        clear hcl hpre HC
        have HB0 := Lib.hid (show Below w.heap.size w (w.iter (a0 ++ a2) pos) from (Below.refl _ _).alloc (Nat.le_refl _) _)
        have T1 : Hid True := trivial
        have T2 : Hid True := trivial
        have hput : tb = true → pattern_Pattern_Put.f true a0 a2 tm = some a3 := fun h => by
          rw [Pure.put_some true a0 a2 tm (by omega), if_pos rfl, HPUT.out h]
        have HPUT2 := Lib.hid hput
        clear hput
        obtain rfl | rfl : tb = true ∨ tb = false := by cases tb <;> simp
        all_goals
          go_wp2_with (first
            | (go_at_call 23; refine (pattern_Of.calls _ true a0 a2 _ HOF.out).mono ?_; rintro e w1 ⟨rfl, hb1⟩; have HB1 := Lib.hid ((HB0.out.trans (hb1.mono HB0.out.size)).alloc (Nat.le_trans HB0.out.size hb1.size) (.cells #[.bool true, .string a0, .string a2] 43)); have hzl := Lib.hid (show w1.heap.size < (w1.alloc (.cells #[.bool true, .string a0, .string a2] 43)).heap.size by simp); have HK1 := Lib.hid (heap_alloc_new w1 (.cells #[.bool true, .string a0, .string a2] 43)); clear hb1)
            | (clear T1; go_at_call 25; refine (pattern_Pattern_Match.calls true a0 a2 _ a1 true _ HM1.out).mono ?_; rintro e w2 ⟨rfl, hb2⟩; have HB2 := Lib.hid (HB1.out.trans (hb2.mono HB1.out.size)); have HK2 := Lib.hid ((hb2.block _ hzl.out).trans HK1.out); have hz2 := Lib.hid (Nat.lt_of_lt_of_le hzl.out hb2.size); clear hb2; have d0 := (Lib.cell_of_heap HK2.out 0).trans rfl; have d1 := (Lib.cell_of_heap HK2.out 1).trans rfl; have d2 := (Lib.cell_of_heap HK2.out 2).trans rfl)
            | (clear T2; go_at_call 25; refine (pattern_Pattern_Match.calls true a0 a2 _ tm _ _ HBACK.out).mono ?_; rintro e w3 ⟨rfl, hb3⟩; have HB3 := Lib.hid (HB2.out.trans (hb3.mono HB2.out.size)); have HK3 := Lib.hid ((hb3.block _ hz2.out).trans HK2.out); have hz3 := Lib.hid (Nat.lt_of_lt_of_le hz2.out hb3.size); clear hb3 d0 d1 d2; have d0 := (Lib.cell_of_heap HK3.out 0).trans rfl; have d1 := (Lib.cell_of_heap HK3.out 1).trans rfl; have d2 := (Lib.cell_of_heap HK3.out 2).trans rfl)
            | (go_at_call 27; refine (pattern_Replace.calls _ _ _ _ true _ HRP.out).mono ?_; rintro e w4 ⟨rfl, hb4⟩; have HB4 := Lib.hid (HB3.out.trans (hb4.mono HB3.out.size)); have HK4 := Lib.hid ((hb4.block _ hz3.out).trans HK3.out); have hz4 := Lib.hid (Nat.lt_of_lt_of_le hz3.out hb4.size); clear hb4 d0 d1 d2; have d0 := (Lib.cell_of_heap HK4.out 0).trans rfl; have d1 := (Lib.cell_of_heap HK4.out 1).trans rfl; have d2 := (Lib.cell_of_heap HK4.out 2).trans rfl)
            | (go_at_call 29; refine (pattern_Pattern_Put.calls true a0 a2 tm a3 _ (by first | exact HPUT2.out rfl | exact HPUT2.out trivial)).mono ?_; rintro e w5 ⟨rfl, hb5⟩; have HB5 := Lib.hid (HB4.out.trans (hb5.mono HB4.out.size)); clear hb5)
            | (go_at_call 22; refine (awake02 _).mono ?_; rintro e w6 ⟨rfl, hb⟩; have HB6 := Lib.hid hb; clear hb))
          go_ret
          first
            | exact ⟨rfl, HB5.out.trans (HB6.out.mono HB5.out.size)⟩
            | exact ⟨rfl, HB4.out.trans (HB6.out.mono HB4.out.size)⟩
end Go.Proofs.Ytabdjijlmiobhaa.G
