/- memo: the calls' contracts as the laws use them: one word for what is known of the world (At). Digits and Place. -/
import Derived.Test.YtabdjijlmiobhaaMemoAwake
import Derived.Test.YtabdjijlmiobhaaP1x1
import Derived.Test.YtabdjijlmiobhaaPx6
import Derived.Test.YtabdjijlmiobhaaPureBase
namespace Go.Proofs.Ytabdjijlmiobhaa.G
open Go.RowKit Go.Maps Go.Sort

/-- The text of a small number. -/
def dig (i : Nat) : ByteArray := (P1.wainwrightlaw00_Digits.f 5 (i : Int)).getD ⟨#[]⟩
theorem dig_all : ∀ i : Fin 120, P1.wainwrightlaw00_Digits.f 5 (i.val : Int) = some (dig i.val) ∧ (dig i.val).size ≤ 3 := by decide +kernel
theorem dig_is (i : Nat) (h : i < 120) : P1.wainwrightlaw00_Digits.f 5 (i : Int) = some (dig i) := (dig_all ⟨i, h⟩).1
theorem dig_size (i : Nat) (h : i < 120) : (dig i).size ≤ 3 := (dig_all ⟨i, h⟩).2

/-- A cache at block cb, in a world that has not turned below base since w0. -/
def At (base : Nat) (w0 w : World) (cb n : Nat) (M h : Int) (E : List Ent) (bm : Nat) : Prop := (∃ v, CacheV base w cb n M h E v bm) ∧ Below base w0 w

theorem CacheV.later {base : Nat} {w w' : World} {cb n : Nat} {M h : Int} {E : List Ent} {v : Value} {bm : Nat} (hC : CacheV base w cb n M h E v bm) (hb : Below w.heap.size w w') : CacheV base w' cb n M h E v bm :=
  hC.kept (F := fun _ => False) ⟨hb.os, hb.tape, hb.output, hb.size, fun k hk _ => hb.block k hk⟩ (fun _ h => h.elim)
theorem At.later {base : Nat} {w0 w w' : World} {cb n : Nat} {M h : Int} {E : List Ent} {bm : Nat} (hA : At base w0 w cb n M h E bm) (hb : Below w.heap.size w w') : At base w0 w' cb n M h E bm := by
  obtain ⟨⟨v, hC⟩, h0⟩ := hA
  exact ⟨⟨v, hC.later hb⟩, h0.trans (hb.mono hC.hz)⟩
theorem At.drewN {base : Nat} {w0 w : World} {cb n : Nat} {M h : Int} {E : List Ent} {bm : Nat} (hA : At base w0 w cb n M h E bm) (q : Nat) : At base w0 (w.drewN q) cb n M h E bm :=
  hA.later ⟨rfl, rfl, rfl, Nat.le_refl _, fun _ _ => rfl⟩

theorem new_at (m : Int) (w : World) (M : Int) (hM : max 0 (min m 1000) = M) :
    Calls Try.prog 12 #[.int .i64 m] w fun e w' => ∃ cb bm, e = .returned (.pointer (some ⟨cb, 0, none⟩)) ∧ At w.heap.size w w' cb 0 M 0 [] bm := by
  refine (new_to m w M hM).mono ?_
  rintro e w' ⟨cb, bm, rfl, h1, h2⟩
  exact ⟨cb, bm, rfl, ⟨_, h1⟩, h2⟩
theorem put_at {base : Nat} {w0 w : World} {cb n : Nat} {M h : Int} {E : List Ent} {bm : Nat} (hA : At base w0 w cb n M h E bm) (x : ByteArray) (turn deep : Int) (s : ByteArray) (hx : x.size ≤ maxLen) (hn : n < maxLen) (hE : (E.length : Int) ≤ M) (hM : M ≤ 1000) (E' : List Ent) (hE' : putE M E ⟨x, turn, deep, s⟩ = E') :
    Calls Try.prog 18 #[.pointer (some ⟨cb, 0, none⟩), .string x, .int .i64 turn, .int .i64 deep, .string s] w fun y w' => y = .returned (.tuple #[]) ∧ At base w0 w' cb (n + 1) M h E' bm := by
  obtain ⟨⟨v, hC⟩, h0⟩ := hA
  refine (put_to hC x turn deep s hx hn hE hM E' hE').mono ?_
  rintro y w' ⟨rfl, v', hK⟩
  exact ⟨rfl, ⟨v', hK.cache⟩, h0.trans (hK.below hC)⟩
theorem get_at {base : Nat} {w0 w : World} {cb n : Nat} {M h : Int} {E : List Ent} {bm : Nat} (hA : At base w0 w cb n M h E bm) (x : ByteArray) (turn room : Int) (hx : x.size ≤ maxLen) :
    Calls Try.prog 19 #[.pointer (some ⟨cb, 0, none⟩), .string x, .int .i64 turn, .int .i64 room] w fun y w' => y = .returned (.tuple #[.string ((fitE E x turn room).getD ⟨#[]⟩), .bool (fitE E x turn room).isSome]) ∧ At base w0 w' cb n M (if (fitE E x turn room).isSome then wrap64 (h + 1) else h) E bm := by
  obtain ⟨⟨v, hC⟩, h0⟩ := hA
  refine (Get.calls hC x turn room hx).mono ?_
  rintro y w' ⟨rfl, hK⟩
  exact ⟨rfl, ⟨v, hK.cache⟩, h0.trans (hK.below hC)⟩
theorem get_at_none {base : Nat} {w0 w : World} {cb n : Nat} {M h : Int} {E : List Ent} {bm : Nat} (hA : At base w0 w cb n M h E bm) (x : ByteArray) (turn room : Int) (hx : x.size ≤ maxLen) (hf : fitE E x turn room = none) :
    Calls Try.prog 19 #[.pointer (some ⟨cb, 0, none⟩), .string x, .int .i64 turn, .int .i64 room] w fun y w' => y = .returned (.tuple #[.string ⟨#[]⟩, .bool false]) ∧ At base w0 w' cb n M h E bm := by
  have := get_at hA x turn room hx
  rw [hf] at this
  exact this
theorem get_at_some {base : Nat} {w0 w : World} {cb n : Nat} {M h : Int} {E : List Ent} {bm : Nat} (hA : At base w0 w cb n M h E bm) (x : ByteArray) (turn room : Int) (hx : x.size ≤ maxLen) (s : ByteArray) (hf : fitE E x turn room = some s) :
    Calls Try.prog 19 #[.pointer (some ⟨cb, 0, none⟩), .string x, .int .i64 turn, .int .i64 room] w fun y w' => y = .returned (.tuple #[.string s, .bool true]) ∧ At base w0 w' cb n M (wrap64 (h + 1)) E bm := by
  have := get_at hA x turn room hx
  rw [hf] at this
  exact this
theorem len_at {base : Nat} {w0 w : World} {cb n : Nat} {M h : Int} {E : List Ent} {bm : Nat} (hA : At base w0 w cb n M h E bm) :
    Calls Try.prog 20 #[.pointer (some ⟨cb, 0, none⟩)] w fun e w' => e = .returned (.int .i64 E.length) ∧ w' = w := by
  obtain ⟨⟨v, hC⟩, _⟩ := hA
  exact Len.calls hC
theorem hits_at {base : Nat} {w0 w : World} {cb n : Nat} {M h : Int} {E : List Ent} {bm : Nat} (hA : At base w0 w cb n M h E bm) :
    Calls Try.prog 21 #[.pointer (some ⟨cb, 0, none⟩)] w fun e w' => e = .returned (.int .i64 h) ∧ w' = w := by
  obtain ⟨⟨v, hC⟩, _⟩ := hA
  exact Hits.calls hC
theorem dig_at {base : Nat} {w0 w : World} {cb n : Nat} {M h : Int} {E : List Ent} {bm : Nat} (hA : At base w0 w cb n M h E bm) (i : Nat) (hi : i < 120) :
    Calls Try.prog 17 #[.int .i64 i] w fun e w' => e = .returned (.string (dig i)) ∧ At base w0 w' cb n M h E bm := by
  refine (P1.wainwrightlaw00_Digits.calls 5 (i : Int) (dig i) w (dig_is i hi)).mono ?_
  rintro e w' ⟨rfl, hb⟩
  exact ⟨rfl, hA.later hb⟩
theorem awake_at {base : Nat} {w0 w : World} {cb n : Nat} {M h : Int} {E : List Ent} {bm : Nat} (hA : At base w0 w cb n M h E bm) :
    Calls Try.prog 14 #[] w fun e w' => e = .returned (.bool true) ∧ At base w0 w' cb n M h E bm := by
  refine (awake.calls w).mono ?_
  rintro e w' ⟨rfl, hb⟩
  exact ⟨rfl, hA.later hb⟩
theorem place_any (a m : Int) (h0 : 0 < m) (h1 : m ≤ 4611686018427387904) (w : World) :
    Calls Try.prog 16 #[.int .i64 a, .int .i64 m] w fun e w' => ∃ t : Nat, P.wainwrightlaw00_Place.f a m = some (t : Int) ∧ (t : Int) < m ∧ e = .returned (.int .i64 t) ∧ Below w.heap.size w w' := by
  obtain ⟨t, ht, t0, t1⟩ := Pure.place a m h0 h1
  refine (P.wainwrightlaw00_Place.calls a m t w ht).mono ?_
  rintro e w' ⟨rfl, nd, rfl⟩
  refine ⟨t.toNat, by rw [ht]; congr 1; omega, by omega, by rw [Int.toNat_of_nonneg t0], rfl, rfl, rfl, Nat.le_refl _, fun _ _ => rfl⟩
end Go.Proofs.Ytabdjijlmiobhaa.G
