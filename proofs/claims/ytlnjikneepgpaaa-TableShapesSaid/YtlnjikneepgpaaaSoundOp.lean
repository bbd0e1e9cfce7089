/- sound.op: what it answers for every instruction, and the walk of its code. -/
import Derived.Test.YtlnjikneepgpaaaP0x1
import Derived.RegionTactic
import Derived.Deep.QuietTactic
import Derived.Deep.RegionWith
import Derived.Deep.RegionHeld3
import Derived.Deep.WholeRow
import Derived.Great.BuildSlice
namespace Go.Proofs.Ytlnjikneepgpaaa.G
open Go.RowKit Go.Proofs.YtlnjikneepgpaaaW.PrintWords Go.Proofs.Ytlnjikneepgpaaa.P0

def kindsC : Array Value := #[.int .i64 0, .bool false, .bool false, .bool false, .int .i64 0, .bool false, .bool true, .bool false, .int .i64 1, .bool false, .bool false, .bool false, .int .i64 3, .bool false, .bool false, .bool false, .int .i64 (-1), .bool true, .bool false, .bool false, .int .i64 (-1), .bool true, .bool true, .bool false, .int .i64 0, .bool false, .bool true, .bool true]
def kindsZ : Array Value := #[.int .i64 0, .bool false, .bool false, .bool false, .int .i64 0, .bool false, .bool false, .bool false, .int .i64 0, .bool false, .bool false, .bool false, .int .i64 0, .bool false, .bool false, .bool false, .int .i64 0, .bool false, .bool false, .bool false, .int .i64 0, .bool false, .bool false, .bool false, .int .i64 0, .bool false, .bool false, .bool false]
theorem kinds_size : (Try.prog.info? 140).map (·.size) = some kindsC.size := by kernel_rfl
theorem kinds_one : kindsC.all (·.oneCell') = true := by kernel_rfl
theorem kinds_old : kindsZ.size = kindsC.size := by kernel_rfl
theorem results_cell1 {fn : Func} {a : Tmp} {T : TypeId} (h : fn.results = #[.cell a T]) (tmps : Array Value) (P : Program) (w : World) (p : Addr) (v : Value) (hp : tmps[a]?.getD undef = .pointer (some p)) (hl : (loadVar T p).run P w = .ok v w) :
    (results fn tmps).run P w = .ok v w := by
  unfold results
  rw [h]
  simp [hp, asAddr, hl]
set_option maxHeartbeats 4000000 in
set_option maxRecDepth 100000 in
theorem sound_kinds (w : World) : Calls Try.prog 106 #[] w fun e w' => e = .returned (.agg kindsC) ∧ Below w.heap.size w w' := by
  have T1 : Hid True := trivial
  go_enter Try.func106, Try.ntmps106
  go_wp2_with ((clear T1; refine wpList_buildTo rfl 140 _ rfl (some 7) rfl kindsC (by kernel_rfl) ?_; refine wpList_store_rowTo rfl 140 (.tmp 0) (.tmp 7) rfl rfl w.heap.size kindsC rfl rfl 140 kindsZ (heap_alloc_last w _) kinds_size kinds_old kinds_one ?_; rw [World.setRow_alloc_new]))
  exact bodyPost_ret (v := .agg kindsC) (results_cell1 (a := 0) (T := 140) rfl _ _ _ ⟨w.heap.size, 0, none⟩ _ rfl (run_loadVar_new w 140 kindsC 7 139 Try.underlying140 kinds_size)) rfl ⟨rfl, (Below.refl _ _).alloc (Nat.le_refl _) _⟩

/-- What of an instruction there may not be. -/
def opBad (k n : Int) (s : ByteArray) (l : List Int) : Bool :=
  (!(decide (k = 4 ∨ k = 5)) && decide (n ≠ 0)) || (!(decide (k = 1 ∨ k = 5 ∨ k = 6)) && decide (s.toList ≠ [])) || (!(decide (k = 6)) && decide (l ≠ [])) || decide (n < 0)
def opTakes (k : Int) : Int := if k = 2 then 1 else if k = 3 then 3 else 0
theorem kinds_ix1 (w : World) : (Instr.index 140 (.agg kindsC) (.int .i64 1)).run Try.prog w = .ok (.agg #[.int .i64 0, .bool false, .bool true, .bool false]) w := by kernel_rfl
theorem kinds_ix2 (w : World) : (Instr.index 140 (.agg kindsC) (.int .i64 2)).run Try.prog w = .ok (.agg #[.int .i64 1, .bool false, .bool false, .bool false]) w := by kernel_rfl
theorem kinds_ix3 (w : World) : (Instr.index 140 (.agg kindsC) (.int .i64 3)).run Try.prog w = .ok (.agg #[.int .i64 3, .bool false, .bool false, .bool false]) w := by kernel_rfl
theorem kinds_ix4 (w : World) : (Instr.index 140 (.agg kindsC) (.int .i64 4)).run Try.prog w = .ok (.agg #[.int .i64 (-1), .bool true, .bool false, .bool false]) w := by kernel_rfl
theorem kinds_ix5 (w : World) : (Instr.index 140 (.agg kindsC) (.int .i64 5)).run Try.prog w = .ok (.agg #[.int .i64 (-1), .bool true, .bool true, .bool false]) w := by kernel_rfl
theorem kinds_ix6 (w : World) : (Instr.index 140 (.agg kindsC) (.int .i64 6)).run Try.prog w = .ok (.agg #[.int .i64 0, .bool false, .bool true, .bool true]) w := by kernel_rfl

end Go.Proofs.Ytlnjikneepgpaaa.G
