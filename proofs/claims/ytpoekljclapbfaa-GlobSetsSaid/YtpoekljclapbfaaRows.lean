/-
  No cell of these rows narrows 'for every input' (looked for: loops, veiled, ifaces, maps, wideKeys, modest, calm, conditions, laid).
  DERIVED. THE GIVEN ROWS OF THIS SEAT. 4 by the template 'for every input the law returns true; each argument reads behind the call as it read before'; 0 by the template 'total and deterministic' (their statements: YtpoekljclapbfaaTotals.lean).
  GIVEN WITH THE SEED: the statements are not yours to turn. If you find one false, say at which input.
  Laid BY PROGRAM, IN A SANDBOX (cutbox-rows.mjs): the forced cells as the released guide's own fill.sh prints them over the translation f8375e0a96ee2024… (all of the seat's roots in one cut). By AI agents, Wed Nov 11 2026. No macro, syntax, notation, axiom, sorry.
-/
import Derived.Test.YtpoekljclapbfaaChecked
import GoSem.Claim
import GoSem.ClaimJoined
import GoSem.ClaimMapViews
import Derived.JoinedTies
import Derived.KernelRfl
namespace Go.Proofs.Ytpoekljclapbfaa
/- THE CELL 'sum', in the pinned program and in every row, IS THE sha256 OF THE DUMP (.gsa) THAT YtpoekljclapbfaaProg.lean LOADS. Nothing in Lean hashes anything: it is a label: what it is worth is what the hold of that sum in a sandbox is worth. -/
noncomputable def Try.pinned : Pinned := { name := "ytpoekljclapbfaa", sum := "f8375e0a96ee2024f390339a69b0f39ea7415017ff5cf2aa9e1021cd9aad5921", checked := Try.checked }
namespace Rows
def none {H : Type} : Left H := { results := [], args := [] }

/-- 'wainwrightlaw03.GlobSets': WHATEVER THE INPUT: true; the input reads as it did. -/
def globSetsSpec : ChangeSpec := { name := "globSets", fn := fun _ => fun
  | [d1, d2] => { results := [.lit (.bool true)], args := [d1, d2] }
  | _ => none }
def globSetsRow : OpenClaim := { program := "ytpoekljclapbfaa", sum := "f8375e0a96ee2024f390339a69b0f39ea7415017ff5cf2aa9e1021cd9aad5921", func := "wainwright/wainwrightlaw03.GlobSets", spec := "globSets", inPlace := ["internal/abi.NoEscape"], apart := false }
def GlobSetsSaid : Prop := globSetsRow.holds Try.pinned (OpenSpec.ofChange globSetsSpec)

/-- ITS FALSE NEIGHBOUR: 'it returns false'. Refute it at one input. -/
def globSetsWrong : ChangeSpec := { name := "globSets", fn := fun _ => fun
  | [d1, d2] => { results := [.lit (.bool false)], args := [d1, d2] }
  | _ => none }
def GlobSetsWrongFalsely : Prop := globSetsRow.holds Try.pinned (OpenSpec.ofChange globSetsWrong)

/-- 'wainwrightlaw03.GlobPlain': WHATEVER THE INPUT: true; the input reads as it did. -/
def globPlainSpec : ChangeSpec := { name := "globPlain", fn := fun _ => fun
  | [d1, d2] => { results := [.lit (.bool true)], args := [d1, d2] }
  | _ => none }
def globPlainRow : OpenClaim := { program := "ytpoekljclapbfaa", sum := "f8375e0a96ee2024f390339a69b0f39ea7415017ff5cf2aa9e1021cd9aad5921", func := "wainwright/wainwrightlaw03.GlobPlain", spec := "globPlain", inPlace := ["internal/abi.NoEscape"], unfollowed := true, recurses := true, apart := false }
def GlobPlainSaid : Prop := globPlainRow.holds Try.pinned (OpenSpec.ofChange globPlainSpec)

/-- ITS FALSE NEIGHBOUR: 'it returns false'. Refute it at one input. -/
def globPlainWrong : ChangeSpec := { name := "globPlain", fn := fun _ => fun
  | [d1, d2] => { results := [.lit (.bool false)], args := [d1, d2] }
  | _ => none }
def GlobPlainWrongFalsely : Prop := globPlainRow.holds Try.pinned (OpenSpec.ofChange globPlainWrong)

/-- 'wainwrightlaw03.GlobStars': WHATEVER THE INPUT: true; the input reads as it did. -/
def globStarsSpec : ChangeSpec := { name := "globStars", fn := fun _ => fun
  | [d1, d2, d3] => { results := [.lit (.bool true)], args := [d1, d2, d3] }
  | _ => none }
def globStarsRow : OpenClaim := { program := "ytpoekljclapbfaa", sum := "f8375e0a96ee2024f390339a69b0f39ea7415017ff5cf2aa9e1021cd9aad5921", func := "wainwright/wainwrightlaw03.GlobStars", spec := "globStars", inPlace := ["internal/abi.NoEscape"], apart := false }
def GlobStarsSaid : Prop := globStarsRow.holds Try.pinned (OpenSpec.ofChange globStarsSpec)

/-- ITS FALSE NEIGHBOUR: 'it returns false'. Refute it at one input. -/
def globStarsWrong : ChangeSpec := { name := "globStars", fn := fun _ => fun
  | [d1, d2, d3] => { results := [.lit (.bool false)], args := [d1, d2, d3] }
  | _ => none }
def GlobStarsWrongFalsely : Prop := globStarsRow.holds Try.pinned (OpenSpec.ofChange globStarsWrong)

/-- 'wainwrightlaw03.GlobDots': WHATEVER THE INPUT: true; the input reads as it did. -/
def globDotsSpec : ChangeSpec := { name := "globDots", fn := fun _ => fun
  | [d] => { results := [.lit (.bool true)], args := [d] }
  | _ => none }
def globDotsRow : OpenClaim := { program := "ytpoekljclapbfaa", sum := "f8375e0a96ee2024f390339a69b0f39ea7415017ff5cf2aa9e1021cd9aad5921", func := "wainwright/wainwrightlaw03.GlobDots", spec := "globDots", inPlace := ["internal/abi.NoEscape"], apart := false }
def GlobDotsSaid : Prop := globDotsRow.holds Try.pinned (OpenSpec.ofChange globDotsSpec)

/-- ITS FALSE NEIGHBOUR: 'it returns false'. Refute it at one input. -/
def globDotsWrong : ChangeSpec := { name := "globDots", fn := fun _ => fun
  | [d] => { results := [.lit (.bool false)], args := [d] }
  | _ => none }
def GlobDotsWrongFalsely : Prop := globDotsRow.holds Try.pinned (OpenSpec.ofChange globDotsWrong)

/- THE SECOND FORM. 'bulk': how many values and letters a reading holds, each counted each time it is reached (what is shared counts as often as it is met; a slice's spare places count too). A statement '..UptoSaid' is the law's where the arguments, and the package variables that the reading takes, are together of bulk at most 1048576: NARROWER than '..Said'. Prove '..Said' where nothing that the law and all that it calls make is longer than what came in: it says more and counts as full. Else prove '..UptoSaid'. A law counts once. -/
mutual
def uptoBulk {H : Type} : DataW H → Nat
  | .lit (.string bytes) => bytes.length + 1
  | .lit _ => 1
  | .nil => 1
  | .ptr d => uptoBulk d + 1
  | .slice elems spare => uptoBulkAll elems + uptoBulkAll spare + 1
  | .agg parts => uptoBulkAll parts + 1
  | .iface _ d => uptoBulk d + 1
  | .map entries => uptoBulkEntries entries + 1
  | .held _ => 1
def uptoBulkAll {H : Type} : List (DataW H) → Nat
  | [] => 0
  | d :: r => uptoBulk d + uptoBulkAll r
def uptoBulkEntries {H : Type} : List (Lit × DataW H) → Nat
  | [] => 0
  | x :: r => uptoBulkEntry x + uptoBulkEntries r
def uptoBulkEntry {H : Type} : Lit × DataW H → Nat
  | (.string bytes, d) => bytes.length + uptoBulk d + 1
  | (_, d) => uptoBulk d + 1
 end
def uptoSmall : (H : Type) → List (DataW H) → Bool := fun _ ds => decide (uptoBulkAll ds ≤ 1048576)
def OpenSpec.upto (s : _root_.Go.ChangeSpec) : _root_.Go.OpenSpec := { _root_.Go.OpenSpec.ofChange s with cond := some uptoSmall }

/-- 'wainwrightlaw03.GlobSets', WHERE WHAT IT READS IS OF BULK AT MOST 1048576: true; the input reads as it did. -/
def globSetsUptoRow : OpenClaim := { program := "ytpoekljclapbfaa", sum := "f8375e0a96ee2024f390339a69b0f39ea7415017ff5cf2aa9e1021cd9aad5921", func := "wainwright/wainwrightlaw03.GlobSets", spec := "globSets", inPlace := ["internal/abi.NoEscape"], apart := false, narrowed := true }
def GlobSetsUptoSaid : Prop := globSetsUptoRow.holds Try.pinned (OpenSpec.upto globSetsSpec)

/-- 'wainwrightlaw03.GlobPlain', WHERE WHAT IT READS IS OF BULK AT MOST 1048576: true; the input reads as it did. -/
def globPlainUptoRow : OpenClaim := { program := "ytpoekljclapbfaa", sum := "f8375e0a96ee2024f390339a69b0f39ea7415017ff5cf2aa9e1021cd9aad5921", func := "wainwright/wainwrightlaw03.GlobPlain", spec := "globPlain", inPlace := ["internal/abi.NoEscape"], unfollowed := true, recurses := true, apart := false, narrowed := true }
def GlobPlainUptoSaid : Prop := globPlainUptoRow.holds Try.pinned (OpenSpec.upto globPlainSpec)

/-- 'wainwrightlaw03.GlobStars', WHERE WHAT IT READS IS OF BULK AT MOST 1048576: true; the input reads as it did. -/
def globStarsUptoRow : OpenClaim := { program := "ytpoekljclapbfaa", sum := "f8375e0a96ee2024f390339a69b0f39ea7415017ff5cf2aa9e1021cd9aad5921", func := "wainwright/wainwrightlaw03.GlobStars", spec := "globStars", inPlace := ["internal/abi.NoEscape"], apart := false, narrowed := true }
def GlobStarsUptoSaid : Prop := globStarsUptoRow.holds Try.pinned (OpenSpec.upto globStarsSpec)

/-- 'wainwrightlaw03.GlobDots', WHERE WHAT IT READS IS OF BULK AT MOST 1048576: true; the input reads as it did. -/
def globDotsUptoRow : OpenClaim := { program := "ytpoekljclapbfaa", sum := "f8375e0a96ee2024f390339a69b0f39ea7415017ff5cf2aa9e1021cd9aad5921", func := "wainwright/wainwrightlaw03.GlobDots", spec := "globDots", inPlace := ["internal/abi.NoEscape"], apart := false, narrowed := true }
def GlobDotsUptoSaid : Prop := globDotsUptoRow.holds Try.pinned (OpenSpec.upto globDotsSpec)

end Rows
end Go.Proofs.Ytpoekljclapbfaa
