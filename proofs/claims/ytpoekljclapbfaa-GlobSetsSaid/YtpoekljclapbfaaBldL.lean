/- The builder's contracts by lists of bytes: what it holds is a list; WriteString of a text, WriteByte, String. -/
import Derived.Test.YtpoekljclapbfaaBuilder
import Derived.Test.YtpoekljclapbfaaShelf
import Derived.Below
import Derived.Lib.Hide
import Derived.Lib.IndexBytes
namespace Go.Proofs.Ytpoekljclapbfaa.G
open Go.RowKit

theorem string_any (B b : Nat) (l : List UInt8) (w : World) (h : Lib.IsBuilder 49 5 B b (Lib.byteCells l) w) (hBw : B ≤ w.heap.size) :
    Calls Try.prog 23 #[.pointer (some ⟨b, 0, none⟩)] w fun e w' => e = .returned (.string ⟨l.toArray⟩) ∧ Below B w w' :=
  Try.Builder_String_any B b l w h hBw

theorem writeByte_l (B : Nat) (pre : List UInt8) (c : UInt8) (n : Int) (hc : n = (c.toNat : Int)) (w : World) (h : Lib.IsBuilder 49 5 B B (Lib.byteCells pre) w) (hlen : pre.length + 1 ≤ 140737488355328) (hBw : B ≤ w.heap.size) :
    Calls Try.prog 22 #[.pointer (some ⟨B, 0, none⟩), .int .u8 n] w fun e w' => e = .returned .nilIface ∧ Lib.IsBuilder 49 5 B B (Lib.byteCells (pre ++ [c])) w' ∧ Below B w w' := by
  refine (writeByte_any B B _ n w h (by rw [Lib.byteCells_length]; omega) hBw).mono ?_
  rintro e w' ⟨rfl, h1, hb⟩
  refine ⟨rfl, Or.inr ?_, hb⟩
  rw [Lib.byteCells_append]
  rw [hc] at h1
  exact h1
theorem cat_eq (x : List UInt8) (s : ByteArray) : (⟨x.toArray⟩ : ByteArray) ++ s = ⟨(x ++ s.data.toList).toArray⟩ := by
  obtain ⟨⟨l⟩⟩ := s
  apply ByteArray.ext; simp
theorem drop_eq (s : ByteArray) (n : Nat) : s.extract n s.size = ⟨(s.data.toList.drop n).toArray⟩ := by
  rw [← Lib.extract_to_end s n, Lib.mk_data]
end Go.Proofs.Ytpoekljclapbfaa.G
