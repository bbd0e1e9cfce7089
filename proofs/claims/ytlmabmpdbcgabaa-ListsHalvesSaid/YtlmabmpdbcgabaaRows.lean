/-
  No cell of these rows narrows 'for every input' (looked for: loops, veiled, ifaces, maps, wideKeys, modest, calm, conditions, laid).
  DERIVED. THE GIVEN ROWS OF THIS SEAT. 4 by the template 'for every input the law returns true; each argument reads behind the call as it read before'; 0 by the template 'total and deterministic' (their statements: YtlmabmpdbcgabaaTotals.lean).
  GIVEN WITH THE SEED: the statements are not yours to turn. If you find one false, say at which input.
  Laid BY PROGRAM, IN A SANDBOX (cutbox-rows.mjs): the forced cells as the released guide's own fill.sh prints them over the translation 47eef59f7ae34af2… (all of the seat's roots in one cut). By AI agents, Wed Nov 11 2026. No macro, syntax, notation, axiom, sorry.
-/
import Derived.Test.YtlmabmpdbcgabaaChecked
import GoSem.Claim
import GoSem.ClaimJoined
import GoSem.ClaimMapViews
import Derived.JoinedTies
import Derived.KernelRfl
namespace Go.Proofs.Ytlmabmpdbcgabaa
/- THE CELL 'sum', in the pinned program and in every row, IS THE sha256 OF THE DUMP (.gsa) THAT YtlmabmpdbcgabaaProg.lean LOADS. Nothing in Lean hashes anything: it is a label: what it is worth is what the hold of that sum in a sandbox is worth. -/
noncomputable def Try.pinned : Pinned := { name := "ytlmabmpdbcgabaa", sum := "47eef59f7ae34af29aca3afb7d7921844c7b833688480574903c901035545ee6", checked := Try.checked }
namespace Rows
def none {H : Type} : Left H := { results := [], args := [] }

/-- 'wainwrightlaw05.ListsAll': WHATEVER THE INPUT: true; the input reads as it did. -/
def listsAllSpec : ChangeSpec := { name := "listsAll", fn := fun _ => fun
  | [d1, d2, d3, d4, d5, d6, d7] => { results := [.lit (.bool true)], args := [d1, d2, d3, d4, d5, d6, d7] }
  | _ => none }
def listsAllRow : OpenClaim := { program := "ytlmabmpdbcgabaa", sum := "47eef59f7ae34af29aca3afb7d7921844c7b833688480574903c901035545ee6", func := "wainwright/wainwrightlaw05.ListsAll", spec := "listsAll", inPlace := ["internal/bytealg.IndexByteString", "internal/abi.NoEscape"], unfollowed := true, recurses := true, apart := false }
def ListsAllSaid : Prop := listsAllRow.holds Try.pinned (OpenSpec.ofChange listsAllSpec)

/-- ITS FALSE NEIGHBOUR: 'it returns false'. Refute it at one input. -/
def listsAllWrong : ChangeSpec := { name := "listsAll", fn := fun _ => fun
  | [d1, d2, d3, d4, d5, d6, d7] => { results := [.lit (.bool false)], args := [d1, d2, d3, d4, d5, d6, d7] }
  | _ => none }
def ListsAllWrongFalsely : Prop := listsAllRow.holds Try.pinned (OpenSpec.ofChange listsAllWrong)

/-- 'wainwrightlaw05.ListsHalves': WHATEVER THE INPUT: true; the input reads as it did. -/
def listsHalvesSpec : ChangeSpec := { name := "listsHalves", fn := fun _ => fun
  | [d1, d2, d3] => { results := [.lit (.bool true)], args := [d1, d2, d3] }
  | _ => none }
def listsHalvesRow : OpenClaim := { program := "ytlmabmpdbcgabaa", sum := "47eef59f7ae34af29aca3afb7d7921844c7b833688480574903c901035545ee6", func := "wainwright/wainwrightlaw05.ListsHalves", spec := "listsHalves", inPlace := ["internal/bytealg.IndexByteString", "internal/abi.NoEscape"], unfollowed := true, recurses := true, apart := false }
def ListsHalvesSaid : Prop := listsHalvesRow.holds Try.pinned (OpenSpec.ofChange listsHalvesSpec)

/-- ITS FALSE NEIGHBOUR: 'it returns false'. Refute it at one input. -/
def listsHalvesWrong : ChangeSpec := { name := "listsHalves", fn := fun _ => fun
  | [d1, d2, d3] => { results := [.lit (.bool false)], args := [d1, d2, d3] }
  | _ => none }
def ListsHalvesWrongFalsely : Prop := listsHalvesRow.holds Try.pinned (OpenSpec.ofChange listsHalvesWrong)

/-- 'wainwrightlaw05.ListsSlices': WHATEVER THE INPUT: true; the input reads as it did. -/
def listsSlicesSpec : ChangeSpec := { name := "listsSlices", fn := fun _ => fun
  | [d1, d2, d3] => { results := [.lit (.bool true)], args := [d1, d2, d3] }
  | _ => none }
def listsSlicesRow : OpenClaim := { program := "ytlmabmpdbcgabaa", sum := "47eef59f7ae34af29aca3afb7d7921844c7b833688480574903c901035545ee6", func := "wainwright/wainwrightlaw05.ListsSlices", spec := "listsSlices", inPlace := ["internal/bytealg.IndexByteString", "internal/abi.NoEscape"], unfollowed := true, recurses := true, apart := false }
def ListsSlicesSaid : Prop := listsSlicesRow.holds Try.pinned (OpenSpec.ofChange listsSlicesSpec)

/-- ITS FALSE NEIGHBOUR: 'it returns false'. Refute it at one input. -/
def listsSlicesWrong : ChangeSpec := { name := "listsSlices", fn := fun _ => fun
  | [d1, d2, d3] => { results := [.lit (.bool false)], args := [d1, d2, d3] }
  | _ => none }
def ListsSlicesWrongFalsely : Prop := listsSlicesRow.holds Try.pinned (OpenSpec.ofChange listsSlicesWrong)

/-- 'wainwrightlaw05.ListsPairs': WHATEVER THE INPUT: true; the input reads as it did. -/
def listsPairsSpec : ChangeSpec := { name := "listsPairs", fn := fun _ => fun
  | [d1, d2] => { results := [.lit (.bool true)], args := [d1, d2] }
  | _ => none }
def listsPairsRow : OpenClaim := { program := "ytlmabmpdbcgabaa", sum := "47eef59f7ae34af29aca3afb7d7921844c7b833688480574903c901035545ee6", func := "wainwright/wainwrightlaw05.ListsPairs", spec := "listsPairs", inPlace := ["internal/bytealg.IndexByteString", "internal/abi.NoEscape"], unfollowed := true, recurses := true, apart := false }
def ListsPairsSaid : Prop := listsPairsRow.holds Try.pinned (OpenSpec.ofChange listsPairsSpec)

/-- ITS FALSE NEIGHBOUR: 'it returns false'. Refute it at one input. -/
def listsPairsWrong : ChangeSpec := { name := "listsPairs", fn := fun _ => fun
  | [d1, d2] => { results := [.lit (.bool false)], args := [d1, d2] }
  | _ => none }
def ListsPairsWrongFalsely : Prop := listsPairsRow.holds Try.pinned (OpenSpec.ofChange listsPairsWrong)

/- THE SECOND FORM. 'bulk': how many values and letters a reading holds, each counted each time it is reached (what is shared counts as often as it is met; a slice's spare places count too). A statement '..UptoSaid' is the law's where the arguments, and the package variables that the reading takes, are together of bulk at most 1048576: NARROWER than '..Said'. Prove '..Said' where nothing that the law and all that it calls make is longer than what came in: it says more and counts as full. Else prove '..UptoSaid'. A law counts once. -/
mutual
def uptoBulk {H : Type} : DataW H → Nat
  | .lit (.string bytes) => bytes.length + 1
  | .lit _ => 1
  | .nil => 1
  | .ptr d => uptoBulk d + 1
  | .slice elems spare => uptoBulkAll elems + uptoBulkAll spare + 1
  | .agg parts => uptoBulkAll parts + 1
  | .iface _ d => uptoBulk d + 1
  | .map entries => uptoBulkEntries entries + 1
  | .held _ => 1
def uptoBulkAll {H : Type} : List (DataW H) → Nat
  | [] => 0
  | d :: r => uptoBulk d + uptoBulkAll r
def uptoBulkEntries {H : Type} : List (Lit × DataW H) → Nat
  | [] => 0
  | x :: r => uptoBulkEntry x + uptoBulkEntries r
def uptoBulkEntry {H : Type} : Lit × DataW H → Nat
  | (.string bytes, d) => bytes.length + uptoBulk d + 1
  | (_, d) => uptoBulk d + 1
 end
def uptoSmall : (H : Type) → List (DataW H) → Bool := fun _ ds => decide (uptoBulkAll ds ≤ 1048576)
def OpenSpec.upto (s : _root_.Go.ChangeSpec) : _root_.Go.OpenSpec := { _root_.Go.OpenSpec.ofChange s with cond := some uptoSmall }

/-- 'wainwrightlaw05.ListsAll', WHERE WHAT IT READS IS OF BULK AT MOST 1048576: true; the input reads as it did. -/
def listsAllUptoRow : OpenClaim := { program := "ytlmabmpdbcgabaa", sum := "47eef59f7ae34af29aca3afb7d7921844c7b833688480574903c901035545ee6", func := "wainwright/wainwrightlaw05.ListsAll", spec := "listsAll", inPlace := ["internal/bytealg.IndexByteString", "internal/abi.NoEscape"], unfollowed := true, recurses := true, apart := false, narrowed := true }
def ListsAllUptoSaid : Prop := listsAllUptoRow.holds Try.pinned (OpenSpec.upto listsAllSpec)

/-- 'wainwrightlaw05.ListsHalves', WHERE WHAT IT READS IS OF BULK AT MOST 1048576: true; the input reads as it did. -/
def listsHalvesUptoRow : OpenClaim := { program := "ytlmabmpdbcgabaa", sum := "47eef59f7ae34af29aca3afb7d7921844c7b833688480574903c901035545ee6", func := "wainwright/wainwrightlaw05.ListsHalves", spec := "listsHalves", inPlace := ["internal/bytealg.IndexByteString", "internal/abi.NoEscape"], unfollowed := true, recurses := true, apart := false, narrowed := true }
def ListsHalvesUptoSaid : Prop := listsHalvesUptoRow.holds Try.pinned (OpenSpec.upto listsHalvesSpec)

/-- 'wainwrightlaw05.ListsSlices', WHERE WHAT IT READS IS OF BULK AT MOST 1048576: true; the input reads as it did. -/
def listsSlicesUptoRow : OpenClaim := { program := "ytlmabmpdbcgabaa", sum := "47eef59f7ae34af29aca3afb7d7921844c7b833688480574903c901035545ee6", func := "wainwright/wainwrightlaw05.ListsSlices", spec := "listsSlices", inPlace := ["internal/bytealg.IndexByteString", "internal/abi.NoEscape"], unfollowed := true, recurses := true, apart := false, narrowed := true }
def ListsSlicesUptoSaid : Prop := listsSlicesUptoRow.holds Try.pinned (OpenSpec.upto listsSlicesSpec)

/-- 'wainwrightlaw05.ListsPairs', WHERE WHAT IT READS IS OF BULK AT MOST 1048576: true; the input reads as it did. -/
def listsPairsUptoRow : OpenClaim := { program := "ytlmabmpdbcgabaa", sum := "47eef59f7ae34af29aca3afb7d7921844c7b833688480574903c901035545ee6", func := "wainwright/wainwrightlaw05.ListsPairs", spec := "listsPairs", inPlace := ["internal/bytealg.IndexByteString", "internal/abi.NoEscape"], unfollowed := true, recurses := true, apart := false, narrowed := true }
def ListsPairsUptoSaid : Prop := listsPairsUptoRow.holds Try.pinned (OpenSpec.upto listsPairsSpec)

end Rows
end Go.Proofs.Ytlmabmpdbcgabaa
