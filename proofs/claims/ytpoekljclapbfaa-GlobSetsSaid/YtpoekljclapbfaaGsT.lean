/- wainwrightref03.T: a block of 258 cells. -/
import Derived.Test.YtpoekljclapbfaaGsOne
import Derived.Deep.WholeRow
import Derived.KernelRfl
import Derived.WalkKit
import Derived.Deep.LoopGhost
import Derived.Laws.ResultCell
namespace Go.Proofs.Ytpoekljclapbfaa.Gs
open Go.RowKit Go.Proofs.Ytpoekljclapbfaa.PR Go.Proofs.Ytpoekljclapbfaa.G Go.Proofs.Ytpoekljclapbfaa.P0 Go.Proofs.YtpoekljclapbfaaW.PrintWords Go.Proofs.YtpoekljclapbfaaW.PrintLast

def bits (f : Nat → Bool) : List Value := (List.range 256).map (fun i => .bool (f i))
/-- A piece's cells: its kind, its byte, which bytes are in it. -/
def tRow (k b : Int) (f : Nat → Bool) : Array Value := (.int .i64 k :: .int .u8 b :: bits f).toArray
theorem tRow_size (k b : Int) (f : Nat → Bool) : (tRow k b f).size = 258 := by simp [tRow, bits]
theorem t_info : (Try.prog.info? 45).map (fun i => (i.zero, i.size)) = some (some (.agg (tRow 0 0 (fun _ => false))), 258) := by kernel_rfl
theorem t_zero : (∀ w, (zeroValue 45).run Try.prog w = .ok (.agg (tRow 0 0 (fun _ => false))) w) ∧ (Try.prog.info? 45).map (·.size) = some 258 := zero_of_info t_info
theorem tRow_bit (k b : Int) (f : Nat → Bool) (i : Nat) (h : i < 256) : (tRow k b f)[i + 2]? = some (.bool (f i)) := by
  simp [tRow, bits, h]
theorem tRow_one (k b : Int) (f : Nat → Bool) : (tRow k b f).all (·.oneCell') = true := by
  rw [Array.all_eq_true_iff_forall_mem]
  intro x hx
  simp only [tRow, bits, List.mem_toArray, List.mem_cons, List.mem_map] at hx
  rcases hx with rfl | rfl | ⟨_, _, rfl⟩ <;> rfl
theorem bits_set (f : Nat → Bool) (i : Nat) (v : Bool) : (bits f).set i (.bool v) = bits (fun n => if n = i then v else f n) := by
  apply List.ext_getElem?
  intro n
  rw [List.getElem?_set]
  simp only [bits, List.getElem?_map, List.length_map, List.length_range]
  by_cases hn : n < 256
  · by_cases hi : i = n
    · subst hi; simp [hn]
    · have : ¬ n = i := fun e => hi e.symm
      simp [hn, hi, this]
  · by_cases hi : i = n
    · subst hi; simp [hn]
    · simp [hn, hi]
theorem tRow_set (k b : Int) (f : Nat → Bool) (i : Nat) (v : Bool) : (tRow k b f).setIfInBounds (i + 2) (.bool v) = tRow k b (fun n => if n = i then v else f n) := by
  unfold tRow
  rw [← bits_set]
  simp
end Go.Proofs.Ytpoekljclapbfaa.Gs
