/-
  No cell of these rows narrows 'for every input' (looked for: loops, veiled, ifaces, maps, wideKeys, modest, calm, conditions, laid).
  DERIVED. THE GIVEN ROWS OF THIS SEAT. 9 by the template 'for every input the law returns true; each argument reads behind the call as it read before'; 0 by the template 'total and deterministic' (their statements: YtabdjijlmiobhaaTotals.lean).
  GIVEN WITH THE SEED: the statements are not yours to turn. If you find one false, say at which input.
  Laid BY PROGRAM, IN A SANDBOX (cutbox-rows.mjs): the forced cells as the released guide's own fill.sh prints them over the translation ef8491d71423714f… (all of the seat's roots in one cut). By AI agents, Wed Nov 11 2026. No macro, syntax, notation, axiom, sorry.
-/
import Derived.Test.YtabdjijlmiobhaaChecked
import GoSem.Claim
import GoSem.ClaimJoined
import GoSem.ClaimMapViews
import Derived.JoinedTies
import Derived.KernelRfl
namespace Go.Proofs.Ytabdjijlmiobhaa
/- THE CELL 'sum', in the pinned program and in every row, IS THE sha256 OF THE DUMP (.gsa) THAT YtabdjijlmiobhaaProg.lean LOADS. Nothing in Lean hashes anything: it is a label: what it is worth is what the hold of that sum in a sandbox is worth. -/
noncomputable def Try.pinned : Pinned := { name := "ytabdjijlmiobhaa", sum := "ef8491d71423714ff2251d470758ae4f4d8743228ad2538ea0ccabd6a6d04458", checked := Try.checked }
namespace Rows
def none {H : Type} : Left H := { results := [], args := [] }

/-- 'wainwrightlaw22.MemoPlays': WHATEVER THE INPUT: true; the input reads as it did. -/
def memoPlaysSpec : ChangeSpec := { name := "memoPlays", fn := fun _ => fun
  | [d1, d2] => { results := [.lit (.bool true)], args := [d1, d2] }
  | _ => none }
def memoPlaysRow : OpenClaim := { program := "ytabdjijlmiobhaa", sum := "ef8491d71423714ff2251d470758ae4f4d8743228ad2538ea0ccabd6a6d04458", func := "wainwright/wainwrightlaw22.MemoPlays", spec := "memoPlays", apart := false }
def MemoPlaysSaid : Prop := memoPlaysRow.holds Try.pinned (OpenSpec.ofChange memoPlaysSpec)

/-- ITS FALSE NEIGHBOUR: 'it returns false'. Refute it at one input. -/
def memoPlaysWrong : ChangeSpec := { name := "memoPlays", fn := fun _ => fun
  | [d1, d2] => { results := [.lit (.bool false)], args := [d1, d2] }
  | _ => none }
def MemoPlaysWrongFalsely : Prop := memoPlaysRow.holds Try.pinned (OpenSpec.ofChange memoPlaysWrong)

/-- 'wainwrightlaw22.MemoNumbers': WHATEVER THE INPUT: true; the input reads as it did. -/
def memoNumbersSpec : ChangeSpec := { name := "memoNumbers", fn := fun _ => fun
  | [d1, d2] => { results := [.lit (.bool true)], args := [d1, d2] }
  | _ => none }
def memoNumbersRow : OpenClaim := { program := "ytabdjijlmiobhaa", sum := "ef8491d71423714ff2251d470758ae4f4d8743228ad2538ea0ccabd6a6d04458", func := "wainwright/wainwrightlaw22.MemoNumbers", spec := "memoNumbers", recurses := true, apart := false }
def MemoNumbersSaid : Prop := memoNumbersRow.holds Try.pinned (OpenSpec.ofChange memoNumbersSpec)

/-- ITS FALSE NEIGHBOUR: 'it returns false'. Refute it at one input. -/
def memoNumbersWrong : ChangeSpec := { name := "memoNumbers", fn := fun _ => fun
  | [d1, d2] => { results := [.lit (.bool false)], args := [d1, d2] }
  | _ => none }
def MemoNumbersWrongFalsely : Prop := memoNumbersRow.holds Try.pinned (OpenSpec.ofChange memoNumbersWrong)

/-- 'wainwrightlaw22.MemoOldest': WHATEVER THE INPUT: true; the input reads as it did. -/
def memoOldestSpec : ChangeSpec := { name := "memoOldest", fn := fun _ => fun
  | [d1, d2] => { results := [.lit (.bool true)], args := [d1, d2] }
  | _ => none }
def memoOldestRow : OpenClaim := { program := "ytabdjijlmiobhaa", sum := "ef8491d71423714ff2251d470758ae4f4d8743228ad2538ea0ccabd6a6d04458", func := "wainwright/wainwrightlaw22.MemoOldest", spec := "memoOldest", recurses := true, apart := false }
def MemoOldestSaid : Prop := memoOldestRow.holds Try.pinned (OpenSpec.ofChange memoOldestSpec)

/-- ITS FALSE NEIGHBOUR: 'it returns false'. Refute it at one input. -/
def memoOldestWrong : ChangeSpec := { name := "memoOldest", fn := fun _ => fun
  | [d1, d2] => { results := [.lit (.bool false)], args := [d1, d2] }
  | _ => none }
def MemoOldestWrongFalsely : Prop := memoOldestRow.holds Try.pinned (OpenSpec.ofChange memoOldestWrong)

/-- 'wainwrightlaw22.MemoTurns': WHATEVER THE INPUT: true; the input reads as it did. -/
def memoTurnsSpec : ChangeSpec := { name := "memoTurns", fn := fun _ => fun
  | [d1, d2] => { results := [.lit (.bool true)], args := [d1, d2] }
  | _ => none }
def memoTurnsRow : OpenClaim := { program := "ytabdjijlmiobhaa", sum := "ef8491d71423714ff2251d470758ae4f4d8743228ad2538ea0ccabd6a6d04458", func := "wainwright/wainwrightlaw22.MemoTurns", spec := "memoTurns", recurses := true, apart := false }
def MemoTurnsSaid : Prop := memoTurnsRow.holds Try.pinned (OpenSpec.ofChange memoTurnsSpec)

/-- ITS FALSE NEIGHBOUR: 'it returns false'. Refute it at one input. -/
def memoTurnsWrong : ChangeSpec := { name := "memoTurns", fn := fun _ => fun
  | [d1, d2] => { results := [.lit (.bool false)], args := [d1, d2] }
  | _ => none }
def MemoTurnsWrongFalsely : Prop := memoTurnsRow.holds Try.pinned (OpenSpec.ofChange memoTurnsWrong)

/-- 'wainwrightlaw02.PatternAll': WHATEVER THE INPUT: true; the input reads as it did. -/
def patternAllSpec : ChangeSpec := { name := "patternAll", fn := fun _ => fun
  | [d1, d2, d3, d4] => { results := [.lit (.bool true)], args := [d1, d2, d3, d4] }
  | _ => none }
def patternAllRow : OpenClaim := { program := "ytabdjijlmiobhaa", sum := "ef8491d71423714ff2251d470758ae4f4d8743228ad2538ea0ccabd6a6d04458", func := "wainwright/wainwrightlaw02.PatternAll", spec := "patternAll", inPlace := ["internal/bytealg.IndexByteString", "internal/abi.NoEscape"], unfollowed := true, recurses := true, apart := false }
def PatternAllSaid : Prop := patternAllRow.holds Try.pinned (OpenSpec.ofChange patternAllSpec)

/-- ITS FALSE NEIGHBOUR: 'it returns false'. Refute it at one input. -/
def patternAllWrong : ChangeSpec := { name := "patternAll", fn := fun _ => fun
  | [d1, d2, d3, d4] => { results := [.lit (.bool false)], args := [d1, d2, d3, d4] }
  | _ => none }
def PatternAllWrongFalsely : Prop := patternAllRow.holds Try.pinned (OpenSpec.ofChange patternAllWrong)

/-- 'wainwrightlaw02.PatternPuts': WHATEVER THE INPUT: true; the input reads as it did. -/
def patternPutsSpec : ChangeSpec := { name := "patternPuts", fn := fun _ => fun
  | [d1, d2, d3, d4] => { results := [.lit (.bool true)], args := [d1, d2, d3, d4] }
  | _ => none }
def patternPutsRow : OpenClaim := { program := "ytabdjijlmiobhaa", sum := "ef8491d71423714ff2251d470758ae4f4d8743228ad2538ea0ccabd6a6d04458", func := "wainwright/wainwrightlaw02.PatternPuts", spec := "patternPuts", inPlace := ["internal/bytealg.IndexByteString", "internal/abi.NoEscape"], unfollowed := true, recurses := true, apart := false }
def PatternPutsSaid : Prop := patternPutsRow.holds Try.pinned (OpenSpec.ofChange patternPutsSpec)

/-- ITS FALSE NEIGHBOUR: 'it returns false'. Refute it at one input. -/
def patternPutsWrong : ChangeSpec := { name := "patternPuts", fn := fun _ => fun
  | [d1, d2, d3, d4] => { results := [.lit (.bool false)], args := [d1, d2, d3, d4] }
  | _ => none }
def PatternPutsWrongFalsely : Prop := patternPutsRow.holds Try.pinned (OpenSpec.ofChange patternPutsWrong)

/-- 'wainwrightlaw02.PatternBacks': WHATEVER THE INPUT: true; the input reads as it did. -/
def patternBacksSpec : ChangeSpec := { name := "patternBacks", fn := fun _ => fun
  | [d1, d2] => { results := [.lit (.bool true)], args := [d1, d2] }
  | _ => none }
def patternBacksRow : OpenClaim := { program := "ytabdjijlmiobhaa", sum := "ef8491d71423714ff2251d470758ae4f4d8743228ad2538ea0ccabd6a6d04458", func := "wainwright/wainwrightlaw02.PatternBacks", spec := "patternBacks", inPlace := ["internal/bytealg.IndexByteString", "internal/abi.NoEscape"], unfollowed := true, recurses := true, apart := false }
def PatternBacksSaid : Prop := patternBacksRow.holds Try.pinned (OpenSpec.ofChange patternBacksSpec)

/-- ITS FALSE NEIGHBOUR: 'it returns false'. Refute it at one input. -/
def patternBacksWrong : ChangeSpec := { name := "patternBacks", fn := fun _ => fun
  | [d1, d2] => { results := [.lit (.bool false)], args := [d1, d2] }
  | _ => none }
def PatternBacksWrongFalsely : Prop := patternBacksRow.holds Try.pinned (OpenSpec.ofChange patternBacksWrong)

/-- 'wainwrightlaw02.PatternWords': WHATEVER THE INPUT: true; the input reads as it did. -/
def patternWordsSpec : ChangeSpec := { name := "patternWords", fn := fun _ => fun
  | [d] => { results := [.lit (.bool true)], args := [d] }
  | _ => none }
def patternWordsRow : OpenClaim := { program := "ytabdjijlmiobhaa", sum := "ef8491d71423714ff2251d470758ae4f4d8743228ad2538ea0ccabd6a6d04458", func := "wainwright/wainwrightlaw02.PatternWords", spec := "patternWords", inPlace := ["internal/bytealg.IndexByteString", "internal/abi.NoEscape"], unfollowed := true, recurses := true, apart := false }
def PatternWordsSaid : Prop := patternWordsRow.holds Try.pinned (OpenSpec.ofChange patternWordsSpec)

/-- ITS FALSE NEIGHBOUR: 'it returns false'. Refute it at one input. -/
def patternWordsWrong : ChangeSpec := { name := "patternWords", fn := fun _ => fun
  | [d] => { results := [.lit (.bool false)], args := [d] }
  | _ => none }
def PatternWordsWrongFalsely : Prop := patternWordsRow.holds Try.pinned (OpenSpec.ofChange patternWordsWrong)

/-- 'wainwrightlaw02.PatternShort': WHATEVER THE INPUT: true; the input reads as it did. -/
def patternShortSpec : ChangeSpec := { name := "patternShort", fn := fun _ => fun
  | [d1, d2, d3] => { results := [.lit (.bool true)], args := [d1, d2, d3] }
  | _ => none }
def patternShortRow : OpenClaim := { program := "ytabdjijlmiobhaa", sum := "ef8491d71423714ff2251d470758ae4f4d8743228ad2538ea0ccabd6a6d04458", func := "wainwright/wainwrightlaw02.PatternShort", spec := "patternShort", inPlace := ["internal/bytealg.IndexByteString", "internal/abi.NoEscape"], unfollowed := true, recurses := true, apart := false }
def PatternShortSaid : Prop := patternShortRow.holds Try.pinned (OpenSpec.ofChange patternShortSpec)

/-- ITS FALSE NEIGHBOUR: 'it returns false'. Refute it at one input. -/
def patternShortWrong : ChangeSpec := { name := "patternShort", fn := fun _ => fun
  | [d1, d2, d3] => { results := [.lit (.bool false)], args := [d1, d2, d3] }
  | _ => none }
def PatternShortWrongFalsely : Prop := patternShortRow.holds Try.pinned (OpenSpec.ofChange patternShortWrong)

/- THE SECOND FORM. 'bulk': how many values and letters a reading holds, each counted each time it is reached (what is shared counts as often as it is met; a slice's spare places count too). A statement '..UptoSaid' is the law's where the arguments, and the package variables that the reading takes, are together of bulk at most 1048576: NARROWER than '..Said'. Prove '..Said' where nothing that the law and all that it calls make is longer than what came in: it says more and counts as full. Else prove '..UptoSaid'. A law counts once. -/
mutual
def uptoBulk {H : Type} : DataW H → Nat
  | .lit (.string bytes) => bytes.length + 1
  | .lit _ => 1
  | .nil => 1
  | .ptr d => uptoBulk d + 1
  | .slice elems spare => uptoBulkAll elems + uptoBulkAll spare + 1
  | .agg parts => uptoBulkAll parts + 1
  | .iface _ d => uptoBulk d + 1
  | .map entries => uptoBulkEntries entries + 1
  | .held _ => 1
def uptoBulkAll {H : Type} : List (DataW H) → Nat
  | [] => 0
  | d :: r => uptoBulk d + uptoBulkAll r
def uptoBulkEntries {H : Type} : List (Lit × DataW H) → Nat
  | [] => 0
  | x :: r => uptoBulkEntry x + uptoBulkEntries r
def uptoBulkEntry {H : Type} : Lit × DataW H → Nat
  | (.string bytes, d) => bytes.length + uptoBulk d + 1
  | (_, d) => uptoBulk d + 1
 end
def uptoSmall : (H : Type) → List (DataW H) → Bool := fun _ ds => decide (uptoBulkAll ds ≤ 1048576)
def OpenSpec.upto (s : _root_.Go.ChangeSpec) : _root_.Go.OpenSpec := { _root_.Go.OpenSpec.ofChange s with cond := some uptoSmall }

/-- 'wainwrightlaw22.MemoPlays', WHERE WHAT IT READS IS OF BULK AT MOST 1048576: true; the input reads as it did. -/
def memoPlaysUptoRow : OpenClaim := { program := "ytabdjijlmiobhaa", sum := "ef8491d71423714ff2251d470758ae4f4d8743228ad2538ea0ccabd6a6d04458", func := "wainwright/wainwrightlaw22.MemoPlays", spec := "memoPlays", apart := false, narrowed := true }
def MemoPlaysUptoSaid : Prop := memoPlaysUptoRow.holds Try.pinned (OpenSpec.upto memoPlaysSpec)

/-- 'wainwrightlaw22.MemoNumbers', WHERE WHAT IT READS IS OF BULK AT MOST 1048576: true; the input reads as it did. -/
def memoNumbersUptoRow : OpenClaim := { program := "ytabdjijlmiobhaa", sum := "ef8491d71423714ff2251d470758ae4f4d8743228ad2538ea0ccabd6a6d04458", func := "wainwright/wainwrightlaw22.MemoNumbers", spec := "memoNumbers", recurses := true, apart := false, narrowed := true }
def MemoNumbersUptoSaid : Prop := memoNumbersUptoRow.holds Try.pinned (OpenSpec.upto memoNumbersSpec)

/-- 'wainwrightlaw22.MemoOldest', WHERE WHAT IT READS IS OF BULK AT MOST 1048576: true; the input reads as it did. -/
def memoOldestUptoRow : OpenClaim := { program := "ytabdjijlmiobhaa", sum := "ef8491d71423714ff2251d470758ae4f4d8743228ad2538ea0ccabd6a6d04458", func := "wainwright/wainwrightlaw22.MemoOldest", spec := "memoOldest", recurses := true, apart := false, narrowed := true }
def MemoOldestUptoSaid : Prop := memoOldestUptoRow.holds Try.pinned (OpenSpec.upto memoOldestSpec)

/-- 'wainwrightlaw22.MemoTurns', WHERE WHAT IT READS IS OF BULK AT MOST 1048576: true; the input reads as it did. -/
def memoTurnsUptoRow : OpenClaim := { program := "ytabdjijlmiobhaa", sum := "ef8491d71423714ff2251d470758ae4f4d8743228ad2538ea0ccabd6a6d04458", func := "wainwright/wainwrightlaw22.MemoTurns", spec := "memoTurns", recurses := true, apart := false, narrowed := true }
def MemoTurnsUptoSaid : Prop := memoTurnsUptoRow.holds Try.pinned (OpenSpec.upto memoTurnsSpec)

/-- 'wainwrightlaw02.PatternAll', WHERE WHAT IT READS IS OF BULK AT MOST 1048576: true; the input reads as it did. -/
def patternAllUptoRow : OpenClaim := { program := "ytabdjijlmiobhaa", sum := "ef8491d71423714ff2251d470758ae4f4d8743228ad2538ea0ccabd6a6d04458", func := "wainwright/wainwrightlaw02.PatternAll", spec := "patternAll", inPlace := ["internal/bytealg.IndexByteString", "internal/abi.NoEscape"], unfollowed := true, recurses := true, apart := false, narrowed := true }
def PatternAllUptoSaid : Prop := patternAllUptoRow.holds Try.pinned (OpenSpec.upto patternAllSpec)

/-- 'wainwrightlaw02.PatternPuts', WHERE WHAT IT READS IS OF BULK AT MOST 1048576: true; the input reads as it did. -/
def patternPutsUptoRow : OpenClaim := { program := "ytabdjijlmiobhaa", sum := "ef8491d71423714ff2251d470758ae4f4d8743228ad2538ea0ccabd6a6d04458", func := "wainwright/wainwrightlaw02.PatternPuts", spec := "patternPuts", inPlace := ["internal/bytealg.IndexByteString", "internal/abi.NoEscape"], unfollowed := true, recurses := true, apart := false, narrowed := true }
def PatternPutsUptoSaid : Prop := patternPutsUptoRow.holds Try.pinned (OpenSpec.upto patternPutsSpec)

/-- 'wainwrightlaw02.PatternBacks', WHERE WHAT IT READS IS OF BULK AT MOST 1048576: true; the input reads as it did. -/
def patternBacksUptoRow : OpenClaim := { program := "ytabdjijlmiobhaa", sum := "ef8491d71423714ff2251d470758ae4f4d8743228ad2538ea0ccabd6a6d04458", func := "wainwright/wainwrightlaw02.PatternBacks", spec := "patternBacks", inPlace := ["internal/bytealg.IndexByteString", "internal/abi.NoEscape"], unfollowed := true, recurses := true, apart := false, narrowed := true }
def PatternBacksUptoSaid : Prop := patternBacksUptoRow.holds Try.pinned (OpenSpec.upto patternBacksSpec)

/-- 'wainwrightlaw02.PatternWords', WHERE WHAT IT READS IS OF BULK AT MOST 1048576: true; the input reads as it did. -/
def patternWordsUptoRow : OpenClaim := { program := "ytabdjijlmiobhaa", sum := "ef8491d71423714ff2251d470758ae4f4d8743228ad2538ea0ccabd6a6d04458", func := "wainwright/wainwrightlaw02.PatternWords", spec := "patternWords", inPlace := ["internal/bytealg.IndexByteString", "internal/abi.NoEscape"], unfollowed := true, recurses := true, apart := false, narrowed := true }
def PatternWordsUptoSaid : Prop := patternWordsUptoRow.holds Try.pinned (OpenSpec.upto patternWordsSpec)

/-- 'wainwrightlaw02.PatternShort', WHERE WHAT IT READS IS OF BULK AT MOST 1048576: true; the input reads as it did. -/
def patternShortUptoRow : OpenClaim := { program := "ytabdjijlmiobhaa", sum := "ef8491d71423714ff2251d470758ae4f4d8743228ad2538ea0ccabd6a6d04458", func := "wainwright/wainwrightlaw02.PatternShort", spec := "patternShort", inPlace := ["internal/bytealg.IndexByteString", "internal/abi.NoEscape"], unfollowed := true, recurses := true, apart := false, narrowed := true }
def PatternShortUptoSaid : Prop := patternShortUptoRow.holds Try.pinned (OpenSpec.upto patternShortSpec)

end Rows
end Go.Proofs.Ytabdjijlmiobhaa
