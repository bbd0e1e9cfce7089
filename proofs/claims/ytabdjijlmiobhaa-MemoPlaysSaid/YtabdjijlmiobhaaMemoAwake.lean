/- memo: the walk of the chapter's example (awake). -/
import Derived.Test.YtabdjijlmiobhaaMemoCalls
namespace Go.Proofs.Ytabdjijlmiobhaa.G
open Go.RowKit Go.Maps Go.Sort

theorem Moved.below {base : Nat} {w w' : World} {cb n n' : Nat} {M h h' : Int} {E E' : List Ent} {v : Value} {bm : Nat} {v' : Value} (hC : CacheV base w cb n M h E v bm) (hM : Moved base w w' cb n' M h' E' v bm v') : Below base w w' :=
  hM.apart.below hC.hz (fun k hk => (hC.footz k hk).1)

theorem get_none {base : Nat} {w : World} {cb n : Nat} {M h : Int} {E : List Ent} {v : Value} {bm : Nat} (hC : CacheV base w cb n M h E v bm) (x : ByteArray) (turn room : Int) (hx : x.size ≤ maxLen) (hf : fitE E x turn room = none) :
    Calls Try.prog 19 #[.pointer (some ⟨cb, 0, none⟩), .string x, .int .i64 turn, .int .i64 room] w fun y w' => y = .returned (.tuple #[.string ⟨#[]⟩, .bool false]) ∧ Moved base w w' cb n M h E v bm v := by
  have := Get.calls hC x turn room hx
  rw [hf] at this
  exact this
theorem get_some {base : Nat} {w : World} {cb n : Nat} {M h : Int} {E : List Ent} {v : Value} {bm : Nat} (hC : CacheV base w cb n M h E v bm) (x : ByteArray) (turn room : Int) (hx : x.size ≤ maxLen) (s : ByteArray) (hf : fitE E x turn room = some s) :
    Calls Try.prog 19 #[.pointer (some ⟨cb, 0, none⟩), .string x, .int .i64 turn, .int .i64 room] w fun y w' => y = .returned (.tuple #[.string s, .bool true]) ∧ Moved base w w' cb n M (wrap64 (h + 1)) E v bm v := by
  have := Get.calls hC x turn room hx
  rw [hf] at this
  exact this
theorem put_to {base : Nat} {w : World} {cb n : Nat} {M h : Int} {E : List Ent} {v : Value} {bm : Nat} (hC : CacheV base w cb n M h E v bm) (x : ByteArray) (turn deep : Int) (s : ByteArray) (hx : x.size ≤ maxLen) (hn : n < maxLen) (hE : (E.length : Int) ≤ M) (hM : M ≤ 1000) (E' : List Ent) (hE' : putE M E ⟨x, turn, deep, s⟩ = E') :
    Calls Try.prog 18 #[.pointer (some ⟨cb, 0, none⟩), .string x, .int .i64 turn, .int .i64 deep, .string s] w fun y w' => y = .returned (.tuple #[]) ∧ ∃ v', Moved base w w' cb (n + 1) M h E' v bm v' := by
  rw [← hE']
  exact Put.calls hC ⟨x, turn, deep, s⟩ hx hn hE hM
theorem new_to (m : Int) (w : World) (M : Int) (hM : max 0 (min m 1000) = M) :
    Calls Try.prog 12 #[.int .i64 m] w fun e w' => ∃ cb bm, e = .returned (.pointer (some ⟨cb, 0, none⟩)) ∧ CacheV w.heap.size w' cb 0 M 0 [] (.slice none 0 0) bm ∧ Below w.heap.size w w' := by
  rw [← hM]
  refine (New.calls m w).mono ?_
  rintro e w' ⟨rfl, h1, h2⟩
  exact ⟨_, _, rfl, h1, h2⟩

def nmA : ByteArray := ⟨#[97]⟩
def vlX : ByteArray := ⟨#[120]⟩
def E1 : List Ent := [⟨nmA, 1, 2, vlX⟩]
theorem fit1 : fitE E1 nmA 2 9 = none := by decide +kernel
theorem fit2 : fitE E1 nmA 1 1 = none := by decide +kernel
theorem fit3 : fitE E1 nmA 1 2 = some vlX := by decide +kernel
theorem put1 : putE 5 [] ⟨nmA, 1, 2, vlX⟩ = E1 := rfl
theorem nmA_le : nmA.size ≤ maxLen := by decide

set_option maxHeartbeats 400000 in
set_option maxRecDepth 100000 in
theorem awake.calls (w : World) : Calls Try.prog 14 #[] w fun e w' => e = .returned (.bool true) ∧ Below w.heap.size w w' := by
  go_enter Try.func14, Try.ntmps14
  have T1 : Hid True := trivial
  have T2 : Hid True := trivial
  have T3 : Hid True := trivial
  go_wp2_with (first
    | (go_at_call 12; refine (new_to 5 _ 5 (by decide)).mono ?_; rintro e w1 ⟨cb, bm, rfl, hC, hb⟩; have HC := Lib.hid hC; have HB := Lib.hid hb; clear hC hb)
    | (go_at_call 18; refine (put_to HC.out nmA 1 2 vlX nmA_le (by decide) (by decide) (by decide) E1 put1).mono ?_; rintro e w2 ⟨rfl, v2, hM⟩; have H2 := Lib.hid hM; clear hM)
    | (clear T1; go_at_call 19; refine (get_none H2.out.cache nmA 2 9 nmA_le fit1).mono ?_; rintro e w3 ⟨rfl, hM⟩; have H3 := Lib.hid hM; clear hM)
    | (clear T2; go_at_call 19; refine (get_none H3.out.cache nmA 1 1 nmA_le fit2).mono ?_; rintro e w4 ⟨rfl, hM⟩; have H4 := Lib.hid hM; clear hM)
    | (clear T3; go_at_call 19; refine (get_some H4.out.cache nmA 1 2 nmA_le ⟨#[120]⟩ fit3).mono ?_; rintro e w5 ⟨rfl, hM⟩; have H5 := Lib.hid hM; clear hM)
    | (go_at_call 20; refine (Len.calls H5.out.cache).mono ?_; rintro e w6 ⟨rfl, rfl⟩)
    | (go_at_call 21; refine (Hits.calls H5.out.cache).mono ?_; rintro e w7 ⟨rfl, rfl⟩))
  go_ret
  exact ⟨by show Ending.returned (Value.bool (wrap64 1 == 1)) = _; rw [show (wrap64 1 == 1) = true by decide +kernel], (((HB.out.trans (H2.out.below HC.out)).trans (H3.out.below H2.out.cache)).trans (H4.out.below H3.out.cache)).trans (H5.out.below H4.out.cache)⟩
end Go.Proofs.Ytabdjijlmiobhaa.G
