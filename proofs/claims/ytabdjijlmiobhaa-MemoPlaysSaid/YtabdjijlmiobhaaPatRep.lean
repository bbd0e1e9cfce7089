/- What pattern.Replace answers, out of Of, Match and Put; and the walk of its code (two method values, called). -/
import Derived.Test.YtabdjijlmiobhaaPatOf
import Derived.Test.YtabdjijlmiobhaaP0x1
import Derived.Test.YtabdjijlmiobhaaP0x2
import Derived.Below
import Derived.Lib.Hide
import Derived.WalkKit
import Derived.Outline
import Derived.Deep.QuietTactic
import Derived.BigQuiet
namespace Go.Proofs.Ytabdjijlmiobhaa.G
open Go.RowKit Go.Proofs.Ytabdjijlmiobhaa.P0

def pattern_Replace.f (a0 a1 a2 : ByteArray) : Option (ByteArray × Bool) :=
  (pattern_Of.f a0).bind fun p => (pattern_Of.f a1).bind fun q => (pattern_Pattern_Match.f p.1 p.2.1 p.2.2 a2).bind fun m =>
    if m.2 = true then (if p.1 = true then (pattern_Pattern_Put.f q.1 q.2.1 q.2.2 m.1).bind fun t => some (t, true) else some (a1, true)) else some (a2, false)

theorem rep_no {m2 : Bool} {a2 r1 : ByteArray} {r2 : Bool} {X : Option (ByteArray × Bool)} (h : (if m2 = true then X else some (a2, false)) = some (r1, r2)) (hm : (!m2) = true) : r1 = a2 ∧ r2 = false := by
  cases m2
  · simp at h; exact ⟨h.1.symm, h.2⟩
  · simp at hm
theorem rep_plain {m2 p1 : Bool} {a1 a2 r1 : ByteArray} {r2 : Bool} {X : Option (ByteArray × Bool)} (h : (if m2 = true then (if p1 = true then X else some (a1, true)) else some (a2, false)) = some (r1, r2)) (hm : (!m2) = false) (hp : p1 = false) : r1 = a1 ∧ r2 = true := by
  cases m2
  · simp at hm
  · subst hp; simp at h; exact ⟨h.1.symm, h.2⟩
theorem rep_put {m2 p1 : Bool} {a1 a2 r1 : ByteArray} {r2 : Bool} {X : Option ByteArray} (h : (if m2 = true then (if p1 = true then (X.bind fun t => some (t, true)) else some (a1, true)) else some (a2, false)) = some (r1, r2)) (hm : (!m2) = false) (hp : p1 = true) : X = some r1 ∧ r2 = true := by
  cases m2
  · simp at hm
  · subst hp
    simp only [if_true] at h
    obtain ⟨t, ht, h⟩ := Option.bind_eq_some_iff.mp h
    simp at h
    exact ⟨ht.trans (by rw [h.1]), h.2⟩

set_option maxHeartbeats 4000000 in
set_option maxRecDepth 100000 in
theorem pattern_Replace.calls (a0 a1 a2 : ByteArray) (r1 : ByteArray) (r2 : Bool) (w : World) (h : pattern_Replace.f a0 a1 a2 = some (r1, r2)) :
    Calls Try.prog 27 #[.string a0, .string a1, .string a2] w fun e w' => e = .returned (.tuple #[.string r1, .bool r2]) ∧ Below w.heap.size w w' := by
  unfold pattern_Replace.f at h
  have h0 := Option.bind_eq_some_iff.mp h
  clear h
  obtain ⟨⟨p1, p2, p3⟩, hp, h⟩ := h0
  have h0 := Option.bind_eq_some_iff.mp h
  clear h
  obtain ⟨⟨q1, q2, q3⟩, hq, h⟩ := h0
  have h0 := Option.bind_eq_some_iff.mp h
  clear h
  obtain ⟨⟨m1, m2⟩, hm, h⟩ := h0
  have HP := Lib.hid hp
  have HQ := Lib.hid hq
  have HM := Lib.hid hm
  have HH := Lib.hid h
  clear hp hq hm h
  go_enter Try.func27, Try.ntmps27
  go_wp2_with (go_at_call 23; refine (pattern_Of.calls a0 p1 p2 p3 _ HP.out).mono ?_; rintro e w1 ⟨rfl, hb1⟩; have hz1 := hb1.size)
  have hblk := Lib.hid (heap_alloc_new w1 (.cells #[.bool p1, .string p2, .string p3] 43))
  have hB1 := Lib.hid (hb1.alloc hz1 (.cells #[.bool p1, .string p2, .string p3] 43))
  have hg := Lib.hid (show w1.heap.size < (w1.alloc (.cells #[.bool p1, .string p2, .string p3] 43)).heap.size by simp)
  clear hb1 hz1
  generalize w1.alloc (.cells #[.bool p1, .string p2, .string p3] 43) = W at hblk hB1 hg ⊢
  generalize w1.heap.size = g at hblk hg ⊢
  have hc0 := (Lib.cell_of_heap hblk.out 0).trans rfl
  have hc1 := (Lib.cell_of_heap hblk.out 1).trans rfl
  have hc2 := (Lib.cell_of_heap hblk.out 2).trans rfl
  go_region_with (go_at_call 23; refine (pattern_Of.calls a1 q1 q2 q3 W.drew HQ.out).mono ?_; rintro e w2 ⟨rfl, hb2⟩; have hB2 := Lib.hid (show Below W.heap.size W w2 from (Below.drew (Below.refl _ _)).trans hb2); have hblk2 := Lib.hid ((hB2.out.block g hg.out).trans hblk.out); have d0 := (Lib.cell_of_heap hblk2.out 0).trans rfl; have d1 := (Lib.cell_of_heap hblk2.out 1).trans rfl; have d2 := (Lib.cell_of_heap hblk2.out 2).trans rfl)
  all_goals
    go_wp2_with (go_at_call 25; refine (pattern_Pattern_Match.calls p1 p2 p3 a2 m1 m2 _ HM.out).mono ?_; rintro e w3 ⟨rfl, hb3⟩; have hB3 := Lib.hid (hB2.out.trans (hb3.mono hB2.out.size)); have hblk3 := Lib.hid ((hB3.out.block g hg.out).trans hblk.out); have e0 := (Lib.cell_of_heap hblk3.out 0).trans rfl)
  all_goals have hB := Lib.hid (hB1.out.trans (hB3.out.mono hB1.out.size))
  all_goals first
    | (obtain ⟨rfl, rfl⟩ := rep_no HH.out ‹(!m2) = true›; go_ret2; exact ⟨rfl, hB.out⟩)
    | (obtain ⟨rfl, rfl⟩ := rep_plain HH.out ‹(!m2) = false› ‹p1 = false›; go_ret2; exact ⟨rfl, hB.out⟩)
    | (obtain ⟨hX, rfl⟩ := rep_put HH.out ‹(!m2) = false› ‹p1 = true›; refine (pattern_Pattern_Put.calls q1 q2 q3 m1 r1 _ hX).mono ?_; rintro e w4 ⟨rfl, hb4⟩; go_wp2; go_ret2; exact ⟨rfl, hB.out.trans (hb4.mono hB.out.size)⟩)
end Go.Proofs.Ytabdjijlmiobhaa.G
